/- The cache: Keys. -/
import Derived.Test.YtppgccbloaijoaaCA
namespace Go.Proofs
set_option linter.unusedVariables false
set_option linter.unusedSimpArgs false
set_option linter.unusedSectionVars false
open Go Go.SX Go.RowKit Go.Ring

/-- The keys of the first k entries, as a slice. -/
def KeySl (B : Nat) (L : List Nat) (D : Nat → Ent) (k : Nat) (x : SV) (i : Nat) (H : Hp) : Prop :=
  (k = 0 ∧ x = .v (.slice none 0 0) ∧ H = []) ∨
  ∃ b cap N row u, 0 < k ∧ B ≤ b ∧ x = .sl i b 0 0 k cap 2 ∧ H = [(b, true, .arr 0 N row 2 u (0, 0))] ∧ k ≤ cap ∧ cap ≤ N ∧ ∀ j, j < k → ∃ z, L[j]? = some z ∧ denL (row j) = [.int .i64 (D z).lba, .int .i64 (D z).ver]

def KeysNil (w : World) (m : Nat) (a : Act) (w' : World) : Prop :=
  m = 0 ∧ RepX (frame0 w) ⟨[(9, 0, .v (.int .i64 0)), (8, 0, .v (.int .i64 0)), (3, 0, .v (.slice none 0 0))], [], 0, 0, 27, [], [], []⟩ a w'

def KeysLoop (w : World) (L : List Nat) (D : Nat → Ent) (b cap N : Nat) (row : Nat → List SV) (u : TypeId) (m : Nat) (a : Act) (w' : World) : Prop :=
  ∃ k x H, m = L.length - k ∧ k ≤ L.length ∧ KeySl w.heap.size L D k x 2 H ∧
    RepX (frame0 w) ⟨[(9, 0, .v (.int .i64 k)), (8, 0, .v (.int .i64 L.length)), (7, 0, .sl 0 b 0 0 L.length cap 1), (3, 0, x)], (b, false, .arr 0 N row 1 u (0, 0)) :: H, 0, 0, 27, [], [], []⟩ a w'

def KeysPost (w : World) (L : List Nat) (D : Nat → Ent) (e : Ending) (w' : World) : Prop :=
  ∃ x H, KeySl w.heap.size L D L.length x 0 H ∧ e = .returned (den x) ∧ HpAll (frame0 w) w' H ∧ Below w.heap.size w w'

set_option maxRecDepth 100000 in
set_option maxHeartbeats 8000000 in
theorem keys_ok (w : World) (c : Nat) (h : Hd) (L : List Nat) (D : Nat → Ent) (hR : RingRep w c h L D) (hlen : L.length ≤ 1000000) :
    Calls Try.prog 12 (denL [.v (.pointer (some ⟨c, 0, none⟩))]).toArray w (KeysPost w L D) := by
  refine enter (F := frame0 w) Try.func12 rfl [.v (.pointer (some ⟨c, 0, none⟩))] [] (by simp [Try.f12]) trivial (keeps0 w) fun a hr => ?_
  refine seg cfg12_ok mixed PanicFree.body 1000 [] [] hr (by first | trivial | exact HpRep.nil | assumption) (by kernel_rfl) fun s_ hs_ => ?_
  simp (maxSteps := 10000000) [SX.vc, SX.stop, SX.contS, SX.contB, SX.contW, SX.contR, SX.contD, SX.sxStep, SX.stepPure, SX.stepNew, SX.stepStore, SX.stepKeep, SX.guardIx, SX.evOp, SX.opd, SX.opds, SX.optOpd, SX.look, SX.putS, SX.gobs, SX.AllP, SX.leave, SX.lookC, SX.lookB, SX.lookT, SX.lookN, SX.findK, SX.evBuiltin, SX.ints, SX.foldI, SX.evBin, SX.evInt, SX.evStr, SX.evEq, SX.arith, SX.evLoad, SX.shapeUp, SX.evFieldAddr, SX.evField, SX.evIndexAddr, SX.evIndex, SX.evFill, SX.evBuild, SX.szs, SX.cellsV, SX.evNew, SX.evStore, SX.spliceL, SX.SV.cells, SX.evConv, SX.evSlice, SX.bnd, SX.evNil, SX.evUn, SX.evPick, SX.pickOpd, SX.popTo, SX.cnd, SX.env0, SX.TD.isAgg, SX.TD.isIface, SX.tails, SX.NotAgg, SX.evLookup, SX.evConvH, SX.evPtrEq, SX.isCells, SX.thaw, SX.frz, SX.fixB, SX.rootIx, SX.Froz, SX.frzStep, SX.fork, Go.Value.cells, Go.undef, cfg12, Try.f12]
  refine ⟨by (unfold SX.Ob; first | trivial | omega | ((try simp only [SX.inK]); (try simp [SX.den, SX.IsU8, SX.AllP, *]); (try omega))), ?_⟩
  intro a1 w1 hr1 _
  have hR1 : RingRep w1 c h L D := hR.keep fun x hx => hr1.keeps.block x (hR.lt hx) (by simp [frame0])
  refine post_call 23 [.v (.pointer (some ⟨c, 0, none⟩))] hr1 (wanted_none rfl) rfl (callable 23 Try.func23) (all_ok w1 c h L D hR1 hlen) ?_
  rintro e w2 ⟨x, H, hx, rfl, hH, hb2⟩
  refine ⟨_, rfl, ?_⟩
  have hR2 : RingRep w2 c h L D := hR1.keep fun x hx => hb2.block x (hR1.lt hx)
  rcases hx with ⟨hL0, rfl, rfl⟩ | ⟨b, cap, N, row, u, hk0, hB, rfl, rfl, hc1, hc2, hrow⟩
  · have h2 := hr1.ret hb2 7 (.v (.slice none 0 0)) rfl [] trivial (by simp) rfl
    refine seg cfg12_ok mixed PanicFree.body 1000 [] [] h2 (by first | trivial | exact HpRep.nil | assumption) (by kernel_rfl) fun s_ hs_ => ?_
    simp (maxSteps := 10000000) [SX.vc, SX.stop, SX.contS, SX.contB, SX.contW, SX.contR, SX.contD, SX.sxStep, SX.stepPure, SX.stepNew, SX.stepStore, SX.stepKeep, SX.guardIx, SX.evOp, SX.opd, SX.opds, SX.optOpd, SX.look, SX.putS, SX.gobs, SX.AllP, SX.leave, SX.lookC, SX.lookB, SX.lookT, SX.lookN, SX.findK, SX.evBuiltin, SX.ints, SX.foldI, SX.evBin, SX.evInt, SX.evStr, SX.evEq, SX.arith, SX.evLoad, SX.shapeUp, SX.evFieldAddr, SX.evField, SX.evIndexAddr, SX.evIndex, SX.evFill, SX.evBuild, SX.szs, SX.cellsV, SX.evNew, SX.evStore, SX.spliceL, SX.SV.cells, SX.evConv, SX.evSlice, SX.bnd, SX.evNil, SX.evUn, SX.evPick, SX.pickOpd, SX.popTo, SX.cnd, SX.env0, SX.TD.isAgg, SX.TD.isIface, SX.tails, SX.NotAgg, SX.evLookup, SX.evConvH, SX.evPtrEq, SX.isCells, SX.thaw, SX.frz, SX.fixB, SX.rootIx, SX.Froz, SX.frzStep, SX.fork, Go.Value.cells, Go.undef, cfg12]
    refine ⟨by (unfold SX.Ob; first | trivial | omega | ((try simp only [SX.inK]); (try simp [SX.den, SX.IsU8, SX.AllP, *]); (try omega))), ?_⟩
    intro a3 w3 hr3 _
    refine post_loop (KeysNil w) 0 ⟨rfl, hr3.re (by simp [envTo, SX.look]) trivial rfl rfl⟩ ?_
    rintro m a4 w4 ⟨rfl, hr4⟩
    refine seg cfg12_ok mixed PanicFree.body 1000 [false] [] hr4 (by first | trivial | exact HpRep.nil | assumption) (by kernel_rfl) fun s_ hs_ => ?_
    simp (maxSteps := 10000000) [SX.vc, SX.stop, SX.contS, SX.contB, SX.contW, SX.contR, SX.contD, SX.sxStep, SX.stepPure, SX.stepNew, SX.stepStore, SX.stepKeep, SX.guardIx, SX.evOp, SX.opd, SX.opds, SX.optOpd, SX.look, SX.putS, SX.gobs, SX.AllP, SX.leave, SX.lookC, SX.lookB, SX.lookT, SX.lookN, SX.findK, SX.evBuiltin, SX.ints, SX.foldI, SX.evBin, SX.evInt, SX.evStr, SX.evEq, SX.arith, SX.evLoad, SX.shapeUp, SX.evFieldAddr, SX.evField, SX.evIndexAddr, SX.evIndex, SX.evFill, SX.evBuild, SX.szs, SX.cellsV, SX.evNew, SX.evStore, SX.spliceL, SX.SV.cells, SX.evConv, SX.evSlice, SX.bnd, SX.evNil, SX.evUn, SX.evPick, SX.pickOpd, SX.popTo, SX.cnd, SX.env0, SX.TD.isAgg, SX.TD.isIface, SX.tails, SX.NotAgg, SX.evLookup, SX.evConvH, SX.evPtrEq, SX.isCells, SX.thaw, SX.frz, SX.fixB, SX.rootIx, SX.Froz, SX.frzStep, SX.fork, Go.Value.cells, Go.undef, cfg12]
    refine ⟨by (unfold SX.Ob; first | trivial | omega | ((try simp only [SX.inK]); (try simp [SX.den, SX.IsU8, SX.AllP, *]); (try omega))), ?_⟩
    intro a5 w5 hr5 _
    exact post_retn (end1 hr5 rfl rfl ⟨_, [], .inl ⟨hL0, rfl, rfl⟩, rfl, trivial, hr5.keeps.toBelow⟩).1
  · have h2 := hr1.ret hb2 7 (.sl 0 b 0 0 L.length cap 1) rfl [(b, false, .arr 0 N row 1 u (0, 0))] ⟨⟨hH.1.1, by simp, by simp⟩, trivial⟩ (by simp) rfl
    refine seg cfg12_ok mixed PanicFree.body 1000 [] [] h2 (by first | trivial | exact HpRep.nil | assumption) (by kernel_rfl) fun s_ hs_ => ?_
    simp (maxSteps := 10000000) [SX.vc, SX.stop, SX.contS, SX.contB, SX.contW, SX.contR, SX.contD, SX.sxStep, SX.stepPure, SX.stepNew, SX.stepStore, SX.stepKeep, SX.guardIx, SX.evOp, SX.opd, SX.opds, SX.optOpd, SX.look, SX.putS, SX.gobs, SX.AllP, SX.leave, SX.lookC, SX.lookB, SX.lookT, SX.lookN, SX.findK, SX.evBuiltin, SX.ints, SX.foldI, SX.evBin, SX.evInt, SX.evStr, SX.evEq, SX.arith, SX.evLoad, SX.shapeUp, SX.evFieldAddr, SX.evField, SX.evIndexAddr, SX.evIndex, SX.evFill, SX.evBuild, SX.szs, SX.cellsV, SX.evNew, SX.evStore, SX.spliceL, SX.SV.cells, SX.evConv, SX.evSlice, SX.bnd, SX.evNil, SX.evUn, SX.evPick, SX.pickOpd, SX.popTo, SX.cnd, SX.env0, SX.TD.isAgg, SX.TD.isIface, SX.tails, SX.NotAgg, SX.evLookup, SX.evConvH, SX.evPtrEq, SX.isCells, SX.thaw, SX.frz, SX.fixB, SX.rootIx, SX.Froz, SX.frzStep, SX.fork, Go.Value.cells, Go.undef, cfg12]
    refine ⟨by (unfold SX.Ob; first | trivial | omega | ((try simp only [SX.inK]); (try simp [SX.den, SX.IsU8, SX.AllP, *]); (try omega))), ?_⟩
    intro a3 w3 hr3 _
    have hR3 : RingRep w3 c h L D := hR.keep fun x hx => hr3.keeps.block x (hR.lt hx) (by simp [frame0])
    have hbR : b ≠ c ∧ b ∉ L := by
      have h5 : w1.heap.size ≤ b := hB
      refine ⟨fun e => ?_, fun e => ?_⟩
      · have := SO.rep_lt hR1.head; omega
      · have := SO.rep_lt (hR1.node b e); omega
    refine post_loop (KeysLoop w L D b cap N row u) L.length ⟨0, .v (.slice none 0 0), [], rfl, Nat.zero_le _, .inl ⟨rfl, rfl, rfl⟩, hr3.re (by simp [envTo, SX.look]) hr3.all rfl rfl⟩ ?_
    rintro m a4 w4 ⟨k, x, H, rfl, hk, hx, hr4⟩
    by_cases hlt : k < L.length
    · have hzL : L[k] ∈ L := List.getElem_mem hlt
      obtain ⟨z, hz⟩ : ∃ z, z = L[k] := ⟨_, rfl⟩
      have hzL' : z ∈ L := hz ▸ hzL
      have hzb : b ≠ z := fun e => hbR.2 (e ▸ hzL')
      have hn := hR.node z hzL'
      have hn4 := SO.rep_same hn (hr4.keeps.block _ (SO.rep_lt hn) (by simp [frame0]))
      have hzw := SO.rep_lt hn
      have hA := hr4.all
      have hg : L[k]? = some z := by rw [hz]; exact List.getElem?_eq_getElem hlt
      have harr : SO.rep w4 b (.arr 0 N (fun j => if j = k then [.ptr 1 z 0] else row j) 1 u (0, 0)) := rep_arr_sub hA.1.1 (Nat.le_refl _) fun j _ => by
        by_cases hj : j = k
        · subst hj; rw [hrow j hlt, hg]; simp [npv, denL, den]
        · simp [hj]
      rcases hx with ⟨rfl, rfl, rfl⟩ | ⟨b', cap', N', row', u', hk0, hB', rfl, rfl, hd1, hd2, hrow'⟩
      · have hr5 : RepX (frame0 w) ⟨[(9, 0, .v (.int .i64 0)), (8, 0, .v (.int .i64 L.length)), (7, 0, .sl 0 b 0 0 L.length cap 1), (3, 0, .v (.slice none 0 0))], [(b, false, .arr 0 N (fun j => if j = 0 then [.ptr 1 z 0] else row j) 1 u (0, 0)), (z, false, .cells (nodeCells (D z) (.v (npv c (predL L z))) (.v (npv c (succL L z)))) 52)], 0, 0, 27, [], [], []⟩ a4 w4 :=
          hr4.re (by simp [envTo, SX.look, den]) ⟨⟨harr, by simp, by simpa using hzb⟩, ⟨hn4, by simp, by simp⟩, trivial⟩ rfl rfl
        refine seg cfg12_ok mixed PanicFree.body 1000 [true] [] hr5 (by first | trivial | exact HpRep.nil | assumption) (by kernel_rfl) fun s_ hs_ => ?_
        simp (maxSteps := 10000000) [SX.vc, SX.stop, SX.contS, SX.contB, SX.contW, SX.contR, SX.contD, SX.sxStep, SX.stepPure, SX.stepNew, SX.stepStore, SX.stepKeep, SX.guardIx, SX.evOp, SX.opd, SX.opds, SX.optOpd, SX.look, SX.putS, SX.gobs, SX.AllP, SX.leave, SX.lookC, SX.lookB, SX.lookT, SX.lookN, SX.findK, SX.evBuiltin, SX.ints, SX.foldI, SX.evBin, SX.evInt, SX.evStr, SX.evEq, SX.arith, SX.evLoad, SX.shapeUp, SX.evFieldAddr, SX.evField, SX.evIndexAddr, SX.evIndex, SX.evFill, SX.evBuild, SX.szs, SX.cellsV, SX.evNew, SX.evStore, SX.spliceL, SX.SV.cells, SX.evConv, SX.evSlice, SX.bnd, SX.evNil, SX.evUn, SX.evPick, SX.pickOpd, SX.popTo, SX.cnd, SX.env0, SX.TD.isAgg, SX.TD.isIface, SX.tails, SX.NotAgg, SX.evLookup, SX.evConvH, SX.evPtrEq, SX.isCells, SX.thaw, SX.frz, SX.fixB, SX.rootIx, SX.Froz, SX.frzStep, SX.fork, Go.Value.cells, Go.undef, cfg12, nodeCells]
        refine ⟨by (unfold SX.Ob; first | trivial | omega | ((try simp only [SX.inK]); (try simp [SX.den, SX.IsU8, SX.AllP, *]); (try omega))), ?_⟩
        intro a6 w6 hr6 _
        refine post_appendD cfg12_ok hr6 rfl rfl rfl rfl (by simp) rfl rfl (t := 33) (t' := 33) rfl rfl rfl rfl rfl rfl (by decide) (j := 2) rfl rfl (base2 := 0) (by omega) (.inl ⟨rfl, rfl, rfl, rfl⟩) (b := 0) (N := 0) (row := fun _ => []) (u := 0) (by omega) (by show (2 * (0 + 1) + 192) * 16 ≤ 281474976710656; omega) (fun j hj y hy => ?_) ?_
        · obtain rfl : j = 0 := by omega
          simp at hy; rcases hy with rfl | rfl <;> trivial
        intro a7 w7 b' cap' N' row' u' hc1' hc2' hrow0 hrow1 hb' hr7
        refine seg cfg12_ok mixed PanicFree.body 1000 [] [] hr7 (by first | trivial | exact HpRep.nil | assumption) (by kernel_rfl) fun s_ hs_ => ?_
        simp (maxSteps := 10000000) [SX.vc, SX.stop, SX.contS, SX.contB, SX.contW, SX.contR, SX.contD, SX.sxStep, SX.stepPure, SX.stepNew, SX.stepStore, SX.stepKeep, SX.guardIx, SX.evOp, SX.opd, SX.opds, SX.optOpd, SX.look, SX.putS, SX.gobs, SX.AllP, SX.leave, SX.lookC, SX.lookB, SX.lookT, SX.lookN, SX.findK, SX.evBuiltin, SX.ints, SX.foldI, SX.evBin, SX.evInt, SX.evStr, SX.evEq, SX.arith, SX.evLoad, SX.shapeUp, SX.evFieldAddr, SX.evField, SX.evIndexAddr, SX.evIndex, SX.evFill, SX.evBuild, SX.szs, SX.cellsV, SX.evNew, SX.evStore, SX.spliceL, SX.SV.cells, SX.evConv, SX.evSlice, SX.bnd, SX.evNil, SX.evUn, SX.evPick, SX.pickOpd, SX.popTo, SX.cnd, SX.env0, SX.TD.isAgg, SX.TD.isIface, SX.tails, SX.NotAgg, SX.evLookup, SX.evConvH, SX.evPtrEq, SX.isCells, SX.thaw, SX.frz, SX.fixB, SX.rootIx, SX.Froz, SX.frzStep, SX.fork, Go.Value.cells, Go.undef, cfg12]
        refine ⟨by (unfold SX.Ob; first | trivial | omega | ((try simp only [SX.inK]); (try simp [SX.den, SX.IsU8, SX.AllP, *]); (try omega))), ?_⟩
        intro a8 w8 hr8 _
        have h8 := hr8.all
        have h0 := hrow1 0 (by omega)
        have h10 : w.heap.size ≤ w6.heap.size := hr6.keeps.size
        have hbb : w.heap.size ≤ b' := by
          rcases hb' with ⟨h11, _⟩ | rfl
          · cases h11
          · exact h10
        refine post_rnd (L.length - (0 + 1)) (by omega) ⟨0 + 1, .sl 2 b' 0 0 1 cap' 2, [(b', true, .arr 0 N' row' 2 u' (0, 0))], rfl, hlt, .inr ⟨b', cap', N', row', u', by omega, hbb, rfl, rfl, by omega, hc2', fun j hj => ?_⟩, hr8.re (by simp [envTo, SX.look, den]) ⟨⟨rep_arr_sub h8.1.1 (Nat.le_refl _) fun j _ => ?_, by simp, ?_⟩, ⟨h8.2.2.2.1.1, h8.2.2.2.1.2.1, by simp⟩, trivial⟩ rfl rfl⟩
        · obtain rfl : j = 0 := by omega
          refine ⟨z, hg, ?_⟩
          simp at h0
          rw [h0]
          simp [denL, den]
        · by_cases hj : j = 0
          · subst hj; rw [hrow 0 hlt, hg]; simp [npv, denL, den]
          · simp [hj]
        · intro e he
          simp at he
          subst he
          exact h8.1.2.2 (b', true, .arr 0 N' row' 2 u' (0, 0)) (by simp)
      · have hbb' : b ≠ b' := by have := hA.1.2.2 (b', true, .arr 0 N' row' 2 u' (0, 0)) (by simp); simpa using this
        have hzb' : z ≠ b' := by omega
        have hr5 : RepX (frame0 w) ⟨[(9, 0, .v (.int .i64 k)), (8, 0, .v (.int .i64 L.length)), (7, 0, .sl 0 b 0 0 L.length cap 1), (3, 0, .sl 2 b' 0 0 k cap' 2)], [(b, false, .arr 0 N (fun j => if j = k then [.ptr 1 z 0] else row j) 1 u (0, 0)), (z, false, .cells (nodeCells (D z) (.v (npv c (predL L z))) (.v (npv c (succL L z)))) 52), (b', true, .arr 0 N' row' 2 u' (0, 0))], 0, 0, 27, [], [], []⟩ a4 w4 :=
          hr4.re (by simp [envTo, SX.look, den]) ⟨⟨harr, by simp, by simpa using ⟨hzb, hbb'⟩⟩, ⟨hn4, by simp, by simpa using hzb'⟩, ⟨hA.2.1.1, hA.2.1.2.1, by simp⟩, trivial⟩ rfl rfl
        refine seg cfg12_ok mixed PanicFree.body 1000 [true] [] hr5 (by first | trivial | exact HpRep.nil | assumption) (by kernel_rfl) fun s_ hs_ => ?_
        simp (maxSteps := 10000000) [SX.vc, SX.stop, SX.contS, SX.contB, SX.contW, SX.contR, SX.contD, SX.sxStep, SX.stepPure, SX.stepNew, SX.stepStore, SX.stepKeep, SX.guardIx, SX.evOp, SX.opd, SX.opds, SX.optOpd, SX.look, SX.putS, SX.gobs, SX.AllP, SX.leave, SX.lookC, SX.lookB, SX.lookT, SX.lookN, SX.findK, SX.evBuiltin, SX.ints, SX.foldI, SX.evBin, SX.evInt, SX.evStr, SX.evEq, SX.arith, SX.evLoad, SX.shapeUp, SX.evFieldAddr, SX.evField, SX.evIndexAddr, SX.evIndex, SX.evFill, SX.evBuild, SX.szs, SX.cellsV, SX.evNew, SX.evStore, SX.spliceL, SX.SV.cells, SX.evConv, SX.evSlice, SX.bnd, SX.evNil, SX.evUn, SX.evPick, SX.pickOpd, SX.popTo, SX.cnd, SX.env0, SX.TD.isAgg, SX.TD.isIface, SX.tails, SX.NotAgg, SX.evLookup, SX.evConvH, SX.evPtrEq, SX.isCells, SX.thaw, SX.frz, SX.fixB, SX.rootIx, SX.Froz, SX.frzStep, SX.fork, Go.Value.cells, Go.undef, cfg12, nodeCells]
        refine ⟨by (unfold SX.Ob; first | trivial | omega | ((try simp only [SX.inK]); (try simp [SX.den, SX.IsU8, SX.AllP, *]); (try omega))), ?_⟩
        intro a6 w6 hr6 _
        refine post_appendD cfg12_ok hr6 rfl rfl rfl rfl (by simp) rfl rfl (t := 33) (t' := 33) rfl rfl rfl rfl rfl rfl (by decide) (j := 3) rfl rfl (base2 := 0) (by omega) (.inr ⟨rfl, rfl, hd2, hd1⟩) (by omega) (by show (2 * (k + 1) + 192) * 16 ≤ 281474976710656; omega) (fun j hj y hy => ?_) ?_
        · obtain rfl : j = 0 := by omega
          simp at hy; rcases hy with rfl | rfl <;> trivial
        intro a7 w7 b2 cap2 N2 row2 u2 hc1' hc2' hrow0 hrow1 hb2' hr7
        refine seg cfg12_ok mixed PanicFree.body 1000 [] [] hr7 (by first | trivial | exact HpRep.nil | assumption) (by kernel_rfl) fun s_ hs_ => ?_
        simp (maxSteps := 10000000) [SX.vc, SX.stop, SX.contS, SX.contB, SX.contW, SX.contR, SX.contD, SX.sxStep, SX.stepPure, SX.stepNew, SX.stepStore, SX.stepKeep, SX.guardIx, SX.evOp, SX.opd, SX.opds, SX.optOpd, SX.look, SX.putS, SX.gobs, SX.AllP, SX.leave, SX.lookC, SX.lookB, SX.lookT, SX.lookN, SX.findK, SX.evBuiltin, SX.ints, SX.foldI, SX.evBin, SX.evInt, SX.evStr, SX.evEq, SX.arith, SX.evLoad, SX.shapeUp, SX.evFieldAddr, SX.evField, SX.evIndexAddr, SX.evIndex, SX.evFill, SX.evBuild, SX.szs, SX.cellsV, SX.evNew, SX.evStore, SX.spliceL, SX.SV.cells, SX.evConv, SX.evSlice, SX.bnd, SX.evNil, SX.evUn, SX.evPick, SX.pickOpd, SX.popTo, SX.cnd, SX.env0, SX.TD.isAgg, SX.TD.isIface, SX.tails, SX.NotAgg, SX.evLookup, SX.evConvH, SX.evPtrEq, SX.isCells, SX.thaw, SX.frz, SX.fixB, SX.rootIx, SX.Froz, SX.frzStep, SX.fork, Go.Value.cells, Go.undef, cfg12]
        refine ⟨by (unfold SX.Ob; first | trivial | omega | ((try simp only [SX.inK]); (try simp [SX.den, SX.IsU8, SX.AllP, *]); (try omega))), ?_⟩
        intro a8 w8 hr8 _
        have h8 := hr8.all
        have h0 := hrow1 0 (by omega)
        have h10 : w.heap.size ≤ w6.heap.size := hr6.keeps.size
        have hbb : w.heap.size ≤ b2 := by
          rcases hb2' with ⟨_, rfl⟩ | rfl
          · exact hB'
          · exact h10
        refine post_rnd (L.length - (k + 1)) (by omega) ⟨k + 1, .sl 2 b2 0 0 (k + 1) cap2 2, [(b2, true, .arr 0 N2 row2 2 u2 (0, 0))], rfl, hlt, .inr ⟨b2, cap2, N2, row2, u2, by omega, hbb, rfl, rfl, hc1', hc2', fun j hj => ?_⟩, hr8.re (by simp [envTo, SX.look, den]) ⟨⟨rep_arr_sub h8.1.1 (Nat.le_refl _) fun j _ => ?_, by simp, ?_⟩, ⟨h8.2.2.1.1, h8.2.2.1.2.1, by simp⟩, trivial⟩ rfl rfl⟩
        · by_cases hjk : j < k
          · rw [hrow0 j hjk]; exact hrow' j hjk
          · obtain rfl : j = k := by omega
            refine ⟨z, hg, ?_⟩
            simp at h0
            rw [h0]
            simp [denL, den]
        · by_cases hj : j = k
          · subst hj; rw [hrow j hlt, hg]; simp [npv, denL, den]
          · simp [hj]
        · intro e he
          simp at he
          subst he
          exact h8.1.2.2 (b2, true, .arr 0 N2 row2 2 u2 (0, 0)) (by simp)
    · obtain rfl : k = L.length := by omega
      refine seg cfg12_ok mixed PanicFree.body 1000 [false] [] hr4 (by first | trivial | exact HpRep.nil | assumption) (by kernel_rfl) fun s_ hs_ => ?_
      simp (maxSteps := 10000000) [SX.vc, SX.stop, SX.contS, SX.contB, SX.contW, SX.contR, SX.contD, SX.sxStep, SX.stepPure, SX.stepNew, SX.stepStore, SX.stepKeep, SX.guardIx, SX.evOp, SX.opd, SX.opds, SX.optOpd, SX.look, SX.putS, SX.gobs, SX.AllP, SX.leave, SX.lookC, SX.lookB, SX.lookT, SX.lookN, SX.findK, SX.evBuiltin, SX.ints, SX.foldI, SX.evBin, SX.evInt, SX.evStr, SX.evEq, SX.arith, SX.evLoad, SX.shapeUp, SX.evFieldAddr, SX.evField, SX.evIndexAddr, SX.evIndex, SX.evFill, SX.evBuild, SX.szs, SX.cellsV, SX.evNew, SX.evStore, SX.spliceL, SX.SV.cells, SX.evConv, SX.evSlice, SX.bnd, SX.evNil, SX.evUn, SX.evPick, SX.pickOpd, SX.popTo, SX.cnd, SX.env0, SX.TD.isAgg, SX.TD.isIface, SX.tails, SX.NotAgg, SX.evLookup, SX.evConvH, SX.evPtrEq, SX.isCells, SX.thaw, SX.frz, SX.fixB, SX.rootIx, SX.Froz, SX.frzStep, SX.fork, Go.Value.cells, Go.undef, cfg12]
      refine ⟨by (unfold SX.Ob; first | trivial | omega | ((try simp only [SX.inK]); (try simp [SX.den, SX.IsU8, SX.AllP, *]); (try omega))), ?_⟩
      intro a5 w5 hr5 _
      have hA := hr5.all.2
      rcases hx with ⟨h1, rfl, rfl⟩ | ⟨b', cap', N', row', u', hk0, hB', rfl, rfl, hd1, hd2, hrow'⟩
      · omega
      · exact post_retn (end1 hr5 rfl rfl ⟨.sl 0 b' 0 0 L.length cap' 2, [(b', true, .arr 0 N' row' 2 u' (0, 0))], .inr ⟨b', cap', N', row', u', hk0, hB', rfl, rfl, hd1, hd2, hrow'⟩, rfl, hA, hr5.keeps.toBelow⟩).1
end Go.Proofs
