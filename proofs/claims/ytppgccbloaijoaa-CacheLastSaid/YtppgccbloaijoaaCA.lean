/- The cache: all, Keys. -/
import Derived.Test.YtppgccbloaijoaaCH
namespace Go.Proofs
set_option linter.unusedVariables false
set_option linter.unusedSimpArgs false
set_option linter.unusedSectionVars false
open Go Go.SX Go.RowKit Go.Ring

theorem succ_get : ∀ {L : List Nat}, L.Nodup → ∀ {k : Nat} (hk : k < L.length), succL L L[k] = L[k + 1]?
  | [], _, k, hk => absurd hk (by simp)
  | z :: r, nd, 0, _ => by cases r <;> simp [succL]
  | z :: r, nd, k + 1, hk => by
    have nr := (List.nodup_cons.1 nd).2
    have hz := (List.nodup_cons.1 nd).1
    have hk' : k < r.length := by simpa using hk
    have hne : z ≠ r[k] := fun e => hz (e ▸ List.getElem_mem hk')
    simp only [List.getElem_cons_succ, succL, if_neg hne, List.getElem?_cons_succ]
    exact succ_get nr hk'

/-- The list of the first k entries, as a slice in slot 3. -/
def AllSl (w : World) (B : Nat) (c : Nat) (L : List Nat) (k : Nat) (x : SV) (H : Hp) : Prop :=
  (k = 0 ∧ x = .v (.slice none 0 0) ∧ H = []) ∨
  ∃ b cap N row u, 0 < k ∧ B ≤ b ∧ x = .sl 1 b 0 0 k cap 1 ∧ H = [(b, true, .arr 0 N row 1 u (0, 0))] ∧ k ≤ cap ∧ cap ≤ N ∧ ∀ j, j < k → denL (row j) = [npv c L[j]?]

def AllLoop (w : World) (c : Nat) (h : Hd) (L : List Nat) (m : Nat) (a : Act) (w' : World) : Prop :=
  ∃ k x H, m = L.length - k ∧ k ≤ L.length ∧ AllSl w w.heap.size c L k x H ∧
    RepX (frame0 w) ⟨[(4, 0, .v (npv c L[k]?)), (3, 0, x), (0, 0, .ptr 0 c 0)], (c, false, .cells (headCells h (.v (npv c L.getLast?)) (.v (npv c L.head?))) 59) :: H, 0, 0, 24, [], [], []⟩ a w'

/-- What all gives. -/
def AllPost (w : World) (c : Nat) (L : List Nat) (e : Ending) (w' : World) : Prop :=
  ∃ x H, AllSl w w.heap.size c L L.length x H ∧ e = .returned (den x) ∧ HpAll (frame0 w) w' H ∧ Below w.heap.size w w'

set_option maxRecDepth 100000 in
set_option maxHeartbeats 8000000 in
theorem all_ok (w : World) (c : Nat) (h : Hd) (L : List Nat) (D : Nat → Ent) (hR : RingRep w c h L D) (hlen : L.length ≤ 1000000) :
    Calls Try.prog 23 (denL [.v (.pointer (some ⟨c, 0, none⟩))]).toArray w (AllPost w c L) := by
  have hE : HpAll (frame0 w) w [(c, false, .cells (headCells h (.v (npv c L.getLast?)) (.v (npv c L.head?))) 59)] := ⟨⟨hR.head, by simp, by simp⟩, trivial⟩
  refine enter (F := frame0 w) Try.func23 rfl [.ptr 0 c 0] _ (by simp [Try.f23]) hE (keeps0 w) fun a hr => ?_
  refine seg cfg23_ok mixed PanicFree.body 1000 [] [] hr (by first | trivial | exact HpRep.nil | assumption) (by kernel_rfl) fun s_ hs_ => ?_
  simp (maxSteps := 10000000) [SX.vc, SX.stop, SX.contS, SX.contB, SX.contW, SX.contR, SX.contD, SX.sxStep, SX.stepPure, SX.stepNew, SX.stepStore, SX.stepKeep, SX.guardIx, SX.evOp, SX.opd, SX.opds, SX.optOpd, SX.look, SX.putS, SX.gobs, SX.AllP, SX.leave, SX.lookC, SX.lookB, SX.lookT, SX.lookN, SX.findK, SX.evBuiltin, SX.ints, SX.foldI, SX.evBin, SX.evInt, SX.evStr, SX.evEq, SX.arith, SX.evLoad, SX.shapeUp, SX.evFieldAddr, SX.evField, SX.evIndexAddr, SX.evIndex, SX.evFill, SX.evBuild, SX.szs, SX.cellsV, SX.evNew, SX.evStore, SX.spliceL, SX.SV.cells, SX.evConv, SX.evSlice, SX.bnd, SX.evNil, SX.evUn, SX.evPick, SX.pickOpd, SX.popTo, SX.cnd, SX.env0, SX.TD.isAgg, SX.TD.isIface, SX.tails, SX.NotAgg, SX.evLookup, SX.evConvH, SX.evPtrEq, SX.isCells, SX.thaw, SX.frz, SX.fixB, SX.rootIx, SX.Froz, SX.frzStep, SX.fork, Go.Value.cells, Go.undef, cfg23, Try.f23, headCells]
  refine ⟨by (unfold SX.Ob; first | trivial | omega | ((try simp only [SX.inK]); (try simp [SX.den, SX.IsU8, SX.AllP, *]); (try omega))), ?_⟩
  intro a1 w1 hr1 _
  refine post_loop (AllLoop w c h L) L.length ⟨0, .v (.slice none 0 0), [], rfl, Nat.zero_le _, .inl ⟨rfl, rfl, rfl⟩, hr1.re (by simp [envTo, SX.look, List.head?_eq_getElem?]) hr1.all rfl rfl⟩ ?_
  rintro m a2 w2 ⟨k, x, H, rfl, hk, hx, hr2⟩
  by_cases hlt : k < L.length
  · have hbL : L[k] ∈ L := List.getElem_mem hlt
    have hcb : c ≠ L[k] := fun e => hR.nc (e ▸ hbL)
    have hbr := hR.node _ hbL
    rw [succ_get hR.nd hlt] at hbr
    have hbw := SO.rep_lt hbr
    have hbr2 := SO.rep_same hbr (hr2.keeps.block _ hbw (by simp [frame0]))
    have hA := hr2.all
    rcases hx with ⟨rfl, rfl, rfl⟩ | ⟨b, cap, N, row, u, hk0, hB, rfl, rfl, hc1, hc2, hrow⟩
    · have hr3 : RepX (frame0 w) ⟨[(4, 0, .ptr 1 L[0] 0), (3, 0, .v (.slice none 0 0)), (0, 0, .ptr 0 c 0)], [(c, false, .cells (headCells h (.v (npv c L.getLast?)) (.v (npv c L.head?))) 59), (L[0], false, .cells (nodeCells (D L[0]) (.v (npv c (predL L L[0]))) (.v (npv c L[0 + 1]?))) 52)], 0, 0, 24, [], [], []⟩ a2 w2 :=
        hr2.re (by simp [envTo, SX.look, den, npv, hlt]) ⟨⟨hA.1.1, by simp, by simpa using hcb⟩, ⟨hbr2, by simp, by simp⟩, trivial⟩ rfl rfl
      refine seg cfg23_ok mixed PanicFree.body 1000 [true] [] hr3 (by first | trivial | exact HpRep.nil | assumption) (by kernel_rfl) fun s_ hs_ => ?_
      simp (maxSteps := 10000000) [SX.vc, SX.stop, SX.contS, SX.contB, SX.contW, SX.contR, SX.contD, SX.sxStep, SX.stepPure, SX.stepNew, SX.stepStore, SX.stepKeep, SX.guardIx, SX.evOp, SX.opd, SX.opds, SX.optOpd, SX.look, SX.putS, SX.gobs, SX.AllP, SX.leave, SX.lookC, SX.lookB, SX.lookT, SX.lookN, SX.findK, SX.evBuiltin, SX.ints, SX.foldI, SX.evBin, SX.evInt, SX.evStr, SX.evEq, SX.arith, SX.evLoad, SX.shapeUp, SX.evFieldAddr, SX.evField, SX.evIndexAddr, SX.evIndex, SX.evFill, SX.evBuild, SX.szs, SX.cellsV, SX.evNew, SX.evStore, SX.spliceL, SX.SV.cells, SX.evConv, SX.evSlice, SX.bnd, SX.evNil, SX.evUn, SX.evPick, SX.pickOpd, SX.popTo, SX.cnd, SX.env0, SX.TD.isAgg, SX.TD.isIface, SX.tails, SX.NotAgg, SX.evLookup, SX.evConvH, SX.evPtrEq, SX.isCells, SX.thaw, SX.frz, SX.fixB, SX.rootIx, SX.Froz, SX.frzStep, SX.fork, Go.Value.cells, Go.undef, cfg23, headCells, nodeCells, hcb.symm]
      refine ⟨by (unfold SX.Ob; first | trivial | omega | ((try simp only [SX.inK]); (try simp [SX.den, SX.IsU8, SX.AllP, *]); (try omega))), ?_⟩
      intro a3 w3 hr4 _
      refine post_append cfg23_ok hr4 rfl (d := 22) rfl (by simp) rfl rfl (t := 65) (t' := 65) rfl rfl rfl rfl rfl rfl (by decide) (j := 2) rfl rfl (base2 := 0) (by omega) (.inl ⟨rfl, rfl, rfl, rfl⟩) (b := 0) (N := 0) (row := fun _ => []) (u := 0) (by omega) (by show (2 * (0 + 1) + 192) * 8 ≤ 281474976710656; omega) (fun j hj z hz => ?_) ?_
      · obtain rfl : j = 0 := by omega
        simp at hz; subst hz; trivial
      intro a4 w4 b' cap' N' row' u' hc1 hc2 hrow0 hrow hb' hr5
      refine seg cfg23_ok mixed PanicFree.body 1000 [] [] hr5 (by first | trivial | exact HpRep.nil | assumption) (by kernel_rfl) fun s_ hs_ => ?_
      simp (maxSteps := 10000000) [SX.vc, SX.stop, SX.contS, SX.contB, SX.contW, SX.contR, SX.contD, SX.sxStep, SX.stepPure, SX.stepNew, SX.stepStore, SX.stepKeep, SX.guardIx, SX.evOp, SX.opd, SX.opds, SX.optOpd, SX.look, SX.putS, SX.gobs, SX.AllP, SX.leave, SX.lookC, SX.lookB, SX.lookT, SX.lookN, SX.findK, SX.evBuiltin, SX.ints, SX.foldI, SX.evBin, SX.evInt, SX.evStr, SX.evEq, SX.arith, SX.evLoad, SX.shapeUp, SX.evFieldAddr, SX.evField, SX.evIndexAddr, SX.evIndex, SX.evFill, SX.evBuild, SX.szs, SX.cellsV, SX.evNew, SX.evStore, SX.spliceL, SX.SV.cells, SX.evConv, SX.evSlice, SX.bnd, SX.evNil, SX.evUn, SX.evPick, SX.pickOpd, SX.popTo, SX.cnd, SX.env0, SX.TD.isAgg, SX.TD.isIface, SX.tails, SX.NotAgg, SX.evLookup, SX.evConvH, SX.evPtrEq, SX.isCells, SX.thaw, SX.frz, SX.fixB, SX.rootIx, SX.Froz, SX.frzStep, SX.fork, Go.Value.cells, Go.undef, cfg23]
      refine ⟨by (unfold SX.Ob; first | trivial | omega | ((try simp only [SX.inK]); (try simp [SX.den, SX.IsU8, SX.AllP, *]); (try omega))), ?_⟩
      intro a5 w5 hr6 _
      have h6 := hr6.all
      have h0 := hrow 0 (by omega)
      refine post_rnd (L.length - (0 + 1)) (by omega) ⟨0 + 1, .sl 1 b' 0 0 1 cap' 1, [(b', true, .arr 0 N' row' 1 u' (0, 0))], rfl, hlt, .inr ⟨b', cap', N', row', u', by omega, ?_, rfl, rfl, by omega, hc2, fun j hj => ?_⟩, hr6.re (by simp [envTo, SX.look, den]) ⟨⟨h6.1.1, by simp, ?_⟩, ⟨h6.2.2.2.1.1, h6.2.2.2.1.2.1, by simp⟩, trivial⟩ rfl rfl⟩
      · have h9 : w.heap.size ≤ w2.heap.size := hr2.keeps.size
        have h10 : w.heap.size ≤ w3.heap.size := hr4.keeps.size
        rcases hb' with ⟨h11, _⟩ | rfl
        · cases h11
        · exact h10
      · obtain rfl : j = 0 := by omega
        simp at h0
        rw [h0]
        simp [npv, hlt, denL, den]
      · intro e he
        simp at he
        subst he
        exact h6.1.2.2 (b', true, .arr 0 N' row' 1 u' (0, 0)) (by simp)
    · have hcw := SO.rep_lt hR.head
      have hbc : b ≠ c := by omega
      have hbk : b ≠ L[k] := by omega
      have hr3 : RepX (frame0 w) ⟨[(4, 0, .ptr 1 L[k] 0), (3, 0, .sl 2 b 0 0 k cap 1), (0, 0, .ptr 0 c 0)], [(c, false, .cells (headCells h (.v (npv c L.getLast?)) (.v (npv c L.head?))) 59), (L[k], false, .cells (nodeCells (D L[k]) (.v (npv c (predL L L[k]))) (.v (npv c L[k + 1]?))) 52), (b, true, .arr 0 N row 1 u (0, 0))], 0, 0, 24, [], [], []⟩ a2 w2 :=
        hr2.re (by simp [envTo, SX.look, den, npv, hlt]) ⟨⟨hA.1.1, by simp, by simpa using ⟨hcb, hbc.symm⟩⟩, ⟨hbr2, by simp, by simpa using hbk.symm⟩, ⟨hA.2.1.1, hA.2.1.2.1, by simp⟩, trivial⟩ rfl rfl
      refine seg cfg23_ok mixed PanicFree.body 1000 [true] [] hr3 (by first | trivial | exact HpRep.nil | assumption) (by kernel_rfl) fun s_ hs_ => ?_
      simp (maxSteps := 10000000) [SX.vc, SX.stop, SX.contS, SX.contB, SX.contW, SX.contR, SX.contD, SX.sxStep, SX.stepPure, SX.stepNew, SX.stepStore, SX.stepKeep, SX.guardIx, SX.evOp, SX.opd, SX.opds, SX.optOpd, SX.look, SX.putS, SX.gobs, SX.AllP, SX.leave, SX.lookC, SX.lookB, SX.lookT, SX.lookN, SX.findK, SX.evBuiltin, SX.ints, SX.foldI, SX.evBin, SX.evInt, SX.evStr, SX.evEq, SX.arith, SX.evLoad, SX.shapeUp, SX.evFieldAddr, SX.evField, SX.evIndexAddr, SX.evIndex, SX.evFill, SX.evBuild, SX.szs, SX.cellsV, SX.evNew, SX.evStore, SX.spliceL, SX.SV.cells, SX.evConv, SX.evSlice, SX.bnd, SX.evNil, SX.evUn, SX.evPick, SX.pickOpd, SX.popTo, SX.cnd, SX.env0, SX.TD.isAgg, SX.TD.isIface, SX.tails, SX.NotAgg, SX.evLookup, SX.evConvH, SX.evPtrEq, SX.isCells, SX.thaw, SX.frz, SX.fixB, SX.rootIx, SX.Froz, SX.frzStep, SX.fork, Go.Value.cells, Go.undef, cfg23, headCells, nodeCells, hcb.symm]
      refine ⟨by (unfold SX.Ob; first | trivial | omega | ((try simp only [SX.inK]); (try simp [SX.den, SX.IsU8, SX.AllP, *]); (try omega))), ?_⟩
      intro a3 w3 hr4 _
      refine post_append cfg23_ok hr4 rfl (d := 22) rfl (by simp) rfl rfl (t := 65) (t' := 65) rfl rfl rfl rfl rfl rfl (by decide) (j := 3) rfl rfl (base2 := 0) (by omega) (.inr ⟨rfl, rfl, hc2, hc1⟩) (by omega) (by show (2 * (k + 1) + 192) * 8 ≤ 281474976710656; omega) (fun j hj z hz => ?_) ?_
      · obtain rfl : j = 0 := by omega
        simp at hz; subst hz; trivial
      intro a4 w4 b' cap' N' row' u' hd1 hd2 hrow0 hrow1 hb' hr5
      refine seg cfg23_ok mixed PanicFree.body 1000 [] [] hr5 (by first | trivial | exact HpRep.nil | assumption) (by kernel_rfl) fun s_ hs_ => ?_
      simp (maxSteps := 10000000) [SX.vc, SX.stop, SX.contS, SX.contB, SX.contW, SX.contR, SX.contD, SX.sxStep, SX.stepPure, SX.stepNew, SX.stepStore, SX.stepKeep, SX.guardIx, SX.evOp, SX.opd, SX.opds, SX.optOpd, SX.look, SX.putS, SX.gobs, SX.AllP, SX.leave, SX.lookC, SX.lookB, SX.lookT, SX.lookN, SX.findK, SX.evBuiltin, SX.ints, SX.foldI, SX.evBin, SX.evInt, SX.evStr, SX.evEq, SX.arith, SX.evLoad, SX.shapeUp, SX.evFieldAddr, SX.evField, SX.evIndexAddr, SX.evIndex, SX.evFill, SX.evBuild, SX.szs, SX.cellsV, SX.evNew, SX.evStore, SX.spliceL, SX.SV.cells, SX.evConv, SX.evSlice, SX.bnd, SX.evNil, SX.evUn, SX.evPick, SX.pickOpd, SX.popTo, SX.cnd, SX.env0, SX.TD.isAgg, SX.TD.isIface, SX.tails, SX.NotAgg, SX.evLookup, SX.evConvH, SX.evPtrEq, SX.isCells, SX.thaw, SX.frz, SX.fixB, SX.rootIx, SX.Froz, SX.frzStep, SX.fork, Go.Value.cells, Go.undef, cfg23]
      refine ⟨by (unfold SX.Ob; first | trivial | omega | ((try simp only [SX.inK]); (try simp [SX.den, SX.IsU8, SX.AllP, *]); (try omega))), ?_⟩
      intro a5 w5 hr6 _
      have h6 := hr6.all
      have h0 := hrow1 0 (by omega)
      have hbb : w.heap.size ≤ b' := by
        have h10 : w.heap.size ≤ w3.heap.size := hr4.keeps.size
        rcases hb' with ⟨_, rfl⟩ | rfl
        · exact hB
        · exact h10
      refine post_rnd (L.length - (k + 1)) (by omega) ⟨k + 1, .sl 1 b' 0 0 (k + 1) cap' 1, [(b', true, .arr 0 N' row' 1 u' (0, 0))], rfl, hlt, .inr ⟨b', cap', N', row', u', by omega, hbb, rfl, rfl, hd1, hd2, fun j hj => ?_⟩, hr6.re (by simp [envTo, SX.look, den]) ⟨⟨h6.1.1, by simp, ?_⟩, ⟨h6.2.2.1.1, h6.2.2.1.2.1, by simp⟩, trivial⟩ rfl rfl⟩
      · by_cases hjk : j < k
        · rw [hrow0 j hjk]; exact hrow j hjk
        · obtain rfl : j = k := by omega
          simp at h0
          rw [h0]
          simp [npv, hlt, denL, den]
      · intro e he
        simp at he
        subst he
        exact h6.1.2.2 (b', true, .arr 0 N' row' 1 u' (0, 0)) (by simp)
  · obtain rfl : k = L.length := by omega
    have hr3 : RepX (frame0 w) ⟨[(4, 0, .ptr 0 c 2), (3, 0, x), (0, 0, .ptr 0 c 0)], (c, false, .cells (headCells h (.v (npv c L.getLast?)) (.v (npv c L.head?))) 59) :: H, 0, 0, 24, [], [], []⟩ a2 w2 :=
      hr2.re (by simp [envTo, SX.look, den, npv]) hr2.all rfl rfl
    refine seg cfg23_ok mixed PanicFree.body 1000 [false] [] hr3 (by first | trivial | exact HpRep.nil | assumption) (by kernel_rfl) fun s_ hs_ => ?_
    simp (maxSteps := 10000000) [SX.vc, SX.stop, SX.contS, SX.contB, SX.contW, SX.contR, SX.contD, SX.sxStep, SX.stepPure, SX.stepNew, SX.stepStore, SX.stepKeep, SX.guardIx, SX.evOp, SX.opd, SX.opds, SX.optOpd, SX.look, SX.putS, SX.gobs, SX.AllP, SX.leave, SX.lookC, SX.lookB, SX.lookT, SX.lookN, SX.findK, SX.evBuiltin, SX.ints, SX.foldI, SX.evBin, SX.evInt, SX.evStr, SX.evEq, SX.arith, SX.evLoad, SX.shapeUp, SX.evFieldAddr, SX.evField, SX.evIndexAddr, SX.evIndex, SX.evFill, SX.evBuild, SX.szs, SX.cellsV, SX.evNew, SX.evStore, SX.spliceL, SX.SV.cells, SX.evConv, SX.evSlice, SX.bnd, SX.evNil, SX.evUn, SX.evPick, SX.pickOpd, SX.popTo, SX.cnd, SX.env0, SX.TD.isAgg, SX.TD.isIface, SX.tails, SX.NotAgg, SX.evLookup, SX.evConvH, SX.evPtrEq, SX.isCells, SX.thaw, SX.frz, SX.fixB, SX.rootIx, SX.Froz, SX.frzStep, SX.fork, Go.Value.cells, Go.undef, cfg23, headCells]
    refine ⟨by (unfold SX.Ob; first | trivial | omega | ((try simp only [SX.inK]); (try simp [SX.den, SX.IsU8, SX.AllP, *]); (try omega))), ?_⟩
    intro a3 w3 hr4 _
    exact post_retn (end1 hr4 rfl rfl ⟨x, H, hx, rfl, hr4.all.2, hr4.keeps.toBelow⟩).1
end Go.Proofs
