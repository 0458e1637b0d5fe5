/- Extents: Part, At, what is told of a block; whether lists are equal. -/
import Derived.Test.YtnmjdelnllchdaaDXd
namespace Go.Proofs
set_option linter.unusedVariables false
set_option linter.unusedSimpArgs false
set_option linter.unusedSectionVars false
open Go Go.SX Go.RowKit

/-- The extent that has a block. -/
def hasB (b : Int) (e : Ext) : Bool := decide (e.lba ≤ b ∧ b < e.lba + e.n)
def atE (L : List Ext) (lba : Int) : Option Ext := if Chk L ∧ Blocks lba 1 then (L.find? (hasB lba)).map (clipE lba 1) else none

theorem find_at {α : Type} {d : α} {p : α → Bool} : ∀ {L : List α} {i : Nat}, i < L.length → (∀ j, j < i → p (nth d L j) = false) → p (nth d L i) = true → L.find? p = some (nth d L i)
  | [], i, h, _, _ => by simp at h
  | x :: r, 0, _, _, h => by
    have : p x = true := h
    simp [List.find?, this, nth]
  | x :: r, i + 1, hi, hj, h => by
    have h0 : p x = false := hj 0 (by omega)
    simp only [List.find?, h0]
    exact find_at (d := d) (L := r) (i := i) (by simpa using hi) (fun j hj' => by simpa [nth] using hj (j + 1) (by omega)) (by simpa [nth] using h)

theorem find_no {α : Type} {d : α} {p : α → Bool} {L : List α} (h : ∀ j, j < L.length → p (nth d L j) = false) : L.find? p = none := by
  rw [List.find?_eq_none]
  intro x hx
  obtain ⟨j, hj, rfl⟩ := List.mem_iff_getElem.1 hx
  have := h j hj
  rw [nth_lt hj] at this
  simp [this]

theorem at_part {L : List Ext} {lba : Int} {i k : Nat} (hC : Chk L) (h : PartIK L lba 1 i k) : (i = k ∧ L.find? (hasB lba) = none) ∨ (i < k ∧ L.find? (hasB lba) = some (nth ext0 L i)) := by
  obtain ⟨⟨hi, h1, h2⟩, hik, hk, h3, h4⟩ := h
  rcases Nat.lt_or_ge i k with hlt | hge
  · refine .inr ⟨hlt, find_at (by omega) (fun j hj => ?_) ?_⟩
    · have := h1 j hj
      simp [hasB]; omega
    · have := h2 i (by omega) (by omega)
      have := h3 i (by omega) hlt
      simp [hasB]; omega
  · obtain rfl : i = k := by omega
    refine .inl ⟨rfl, find_no (d := ext0) fun j hj => ?_⟩
    rcases Nat.lt_or_ge j i with hj1 | hj1
    · have := h1 j hj1
      simp [hasB]; omega
    · have h5 := h4 (by omega)
      rcases Nat.lt_or_ge i j with h6 | h6
      · have h7 := hC.lt h6 hj
        have h8 := (hC.mayN (show i < L.length by omega)).2.1
        simp [hasB]; omega
      · obtain rfl : i = j := by omega
        simp [hasB]; omega

def AtR (w : World) (r : Option Ext) (e : Ending) (w' : World) : Prop := e = .returned (den (.tu [.ag (extC (r.getD ext0)), .v (.bool r.isSome)])) ∧ Below w.heap.size w w'

set_option maxRecDepth 100000 in
set_option maxHeartbeats 8000000 in
/-- At. -/
theorem At_ok {P : Nat → Prop} (w : World) (v : Value) (L : List Ext) (lba : Int) (hL : RdE P w v L) (hn : L.length ≤ 1000000) : Calls Try.prog 20 (denL [.v v, .v (.int .i64 lba)]).toArray w (AtR w (atE L lba)) := by
  refine enter (F := frame0 w) Try.func20 rfl [.v v, .v (.int .i64 lba)] [] (by simp [Try.f20]) trivial (keeps0 w) fun a hr => ?_
  refine seg cfg20_ok mixed PanicFree.body 1000 [] [] hr (by first | trivial | exact HpRep.nil | assumption) (by kernel_rfl) fun s_ hs_ => ?_
  simp (maxSteps := 10000000) [SX.vc, SX.stop, SX.contS, SX.contB, SX.contW, SX.contR, SX.contD, SX.sxStep, SX.stepPure, SX.stepNew, SX.stepStore, SX.stepKeep, SX.guardIx, SX.evOp, SX.opd, SX.opds, SX.optOpd, SX.look, SX.putS, SX.gobs, SX.AllP, SX.leave, SX.lookC, SX.lookB, SX.lookT, SX.lookN, SX.findK, SX.evBuiltin, SX.ints, SX.foldI, SX.evBin, SX.evInt, SX.evStr, SX.evEq, SX.arith, SX.evLoad, SX.shapeUp, SX.evFieldAddr, SX.evField, SX.evIndexAddr, SX.evIndex, SX.evFill, SX.evBuild, SX.szs, SX.cellsV, SX.evNew, SX.evStore, SX.spliceL, SX.SV.cells, SX.evConv, SX.evSlice, SX.bnd, SX.evNil, SX.evUn, SX.evPick, SX.pickOpd, SX.popTo, SX.cnd, SX.env0, SX.TD.isAgg, SX.TD.isIface, SX.tails, SX.NotAgg, SX.evLookup, SX.evConvH, SX.evPtrEq, SX.isCells, SX.thaw, SX.frz, SX.fixB, SX.rootIx, SX.Froz, SX.frzStep, SX.fork, Go.Value.cells, Go.undef, cfg20, Try.f20]
  refine ⟨by (unfold SX.Ob; first | trivial | omega | ((try simp only [SX.inK]); (try simp [SX.den, SX.IsU8, SX.AllP, *]); (try omega))), ?_⟩
  intro a1 w1 hr1 _
  refine post_call 27 [.v v] hr1 (by first | exact wanted_none rfl | exact wanted_zero (hr1.env.same rfl rfl rfl rfl) rfl (by simp) | exact wanted_zero (hr1.env.same rfl rfl rfl rfl) rfl (by simp [*])) rfl (callable 27 Try.func27) (check_ok w1 v L (hL.below hr1.keeps.toBelow) hn) ?_
  rintro e2 w2 ⟨rfl, hb2⟩
  refine ⟨_, rfl, ?_⟩
  have h2 := hr1.ret hb2 10 (.v (.int .i64 (chkE L))) rfl _ (hr1.all.below hb2) (by simp) rfl
  by_cases hC : Chk L
  rotate_left
  · have hc : chkE L = 1 := if_neg hC
    refine seg cfg20_ok mixed PanicFree.body 1000 [true] [(12, true)] h2 (by first | trivial | exact HpRep.nil | assumption) (by kernel_rfl) fun s_ hs_ => ?_
    simp (maxSteps := 10000000) [SX.vc, SX.stop, SX.contS, SX.contB, SX.contW, SX.contR, SX.contD, SX.sxStep, SX.stepPure, SX.stepNew, SX.stepStore, SX.stepKeep, SX.guardIx, SX.evOp, SX.opd, SX.opds, SX.optOpd, SX.look, SX.putS, SX.gobs, SX.AllP, SX.leave, SX.lookC, SX.lookB, SX.lookT, SX.lookN, SX.findK, SX.evBuiltin, SX.ints, SX.foldI, SX.evBin, SX.evInt, SX.evStr, SX.evEq, SX.arith, SX.evLoad, SX.shapeUp, SX.evFieldAddr, SX.evField, SX.evIndexAddr, SX.evIndex, SX.evFill, SX.evBuild, SX.szs, SX.cellsV, SX.evNew, SX.evStore, SX.spliceL, SX.SV.cells, SX.evConv, SX.evSlice, SX.bnd, SX.evNil, SX.evUn, SX.evPick, SX.pickOpd, SX.popTo, SX.cnd, SX.env0, SX.TD.isAgg, SX.TD.isIface, SX.tails, SX.NotAgg, SX.evLookup, SX.evConvH, SX.evPtrEq, SX.isCells, SX.thaw, SX.frz, SX.fixB, SX.rootIx, SX.Froz, SX.frzStep, SX.fork, Go.Value.cells, Go.undef, cfg20, hc]
    refine ⟨by (unfold SX.Ob; first | trivial | omega | ((try simp only [SX.inK]); (try simp [SX.den, SX.IsU8, SX.AllP, *]); (try omega))), ?_⟩
    intro a3 w3 hr3 _
    have hA : atE L lba = none := if_neg fun h => hC h.1
    exact post_retn (endC2 hr3 rfl rfl rfl tok51 rfl rfl ⟨by rw [hA]; simp [den, denL, extC, ext0], hr3.keeps.toBelow⟩).1
  have hc : chkE L = 0 := if_pos hC
  refine seg cfg20_ok mixed PanicFree.body 1000 [] [(12, false)] h2 (by first | trivial | exact HpRep.nil | assumption) (by kernel_rfl) fun s_ hs_ => ?_
  simp (maxSteps := 10000000) [SX.vc, SX.stop, SX.contS, SX.contB, SX.contW, SX.contR, SX.contD, SX.sxStep, SX.stepPure, SX.stepNew, SX.stepStore, SX.stepKeep, SX.guardIx, SX.evOp, SX.opd, SX.opds, SX.optOpd, SX.look, SX.putS, SX.gobs, SX.AllP, SX.leave, SX.lookC, SX.lookB, SX.lookT, SX.lookN, SX.findK, SX.evBuiltin, SX.ints, SX.foldI, SX.evBin, SX.evInt, SX.evStr, SX.evEq, SX.arith, SX.evLoad, SX.shapeUp, SX.evFieldAddr, SX.evField, SX.evIndexAddr, SX.evIndex, SX.evFill, SX.evBuild, SX.szs, SX.cellsV, SX.evNew, SX.evStore, SX.spliceL, SX.SV.cells, SX.evConv, SX.evSlice, SX.bnd, SX.evNil, SX.evUn, SX.evPick, SX.pickOpd, SX.popTo, SX.cnd, SX.env0, SX.TD.isAgg, SX.TD.isIface, SX.tails, SX.NotAgg, SX.evLookup, SX.evConvH, SX.evPtrEq, SX.isCells, SX.thaw, SX.frz, SX.fixB, SX.rootIx, SX.Froz, SX.frzStep, SX.fork, Go.Value.cells, Go.undef, cfg20, hc]
  refine ⟨by (unfold SX.Ob; first | trivial | omega | ((try simp only [SX.inK]); (try simp [SX.den, SX.IsU8, SX.AllP, *]); (try omega))), ?_⟩
  intro a3 w3 hr3 _
  refine post_call 39 [.v (.int .i64 lba), .v (.int .i64 1)] hr3 (by first | exact wanted_none rfl | exact wanted_zero (hr3.env.same rfl rfl rfl rfl) rfl (by simp) | exact wanted_zero (hr3.env.same rfl rfl rfl rfl) rfl (by simp [*])) rfl (callable 39 Try.func39) (blocks_ok w3 lba 1) ?_
  rintro e4 w4 ⟨rfl, hb4⟩
  refine ⟨_, rfl, ?_⟩
  have h4 := hr3.ret hb4 14 (.v (.bool (decide (Blocks lba 1)))) rfl _ (hr3.all.below hb4) (by simp) rfl
  by_cases hB : Blocks lba 1
  rotate_left
  · refine seg cfg20_ok mixed PanicFree.body 1000 [true] [(12, false)] h4 (by first | trivial | exact HpRep.nil | assumption) (by kernel_rfl) fun s_ hs_ => ?_
    simp (maxSteps := 10000000) [SX.vc, SX.stop, SX.contS, SX.contB, SX.contW, SX.contR, SX.contD, SX.sxStep, SX.stepPure, SX.stepNew, SX.stepStore, SX.stepKeep, SX.guardIx, SX.evOp, SX.opd, SX.opds, SX.optOpd, SX.look, SX.putS, SX.gobs, SX.AllP, SX.leave, SX.lookC, SX.lookB, SX.lookT, SX.lookN, SX.findK, SX.evBuiltin, SX.ints, SX.foldI, SX.evBin, SX.evInt, SX.evStr, SX.evEq, SX.arith, SX.evLoad, SX.shapeUp, SX.evFieldAddr, SX.evField, SX.evIndexAddr, SX.evIndex, SX.evFill, SX.evBuild, SX.szs, SX.cellsV, SX.evNew, SX.evStore, SX.spliceL, SX.SV.cells, SX.evConv, SX.evSlice, SX.bnd, SX.evNil, SX.evUn, SX.evPick, SX.pickOpd, SX.popTo, SX.cnd, SX.env0, SX.TD.isAgg, SX.TD.isIface, SX.tails, SX.NotAgg, SX.evLookup, SX.evConvH, SX.evPtrEq, SX.isCells, SX.thaw, SX.frz, SX.fixB, SX.rootIx, SX.Froz, SX.frzStep, SX.fork, Go.Value.cells, Go.undef, cfg20, hB]
    refine ⟨by (unfold SX.Ob; first | trivial | omega | ((try simp only [SX.inK]); (try simp [SX.den, SX.IsU8, SX.AllP, *]); (try omega))), ?_⟩
    intro a5 w5 hr5 _
    have hA : atE L lba = none := if_neg fun h => hB h.2
    exact post_retn (endC2 hr5 rfl rfl rfl tok51 rfl rfl ⟨by rw [hA]; simp [den, denL, extC, ext0], hr5.keeps.toBelow⟩).1
  have hA : atE L lba = (L.find? (hasB lba)).map (clipE lba 1) := if_pos ⟨hC, hB⟩
  refine seg cfg20_ok mixed PanicFree.body 1000 [false] [(12, false)] h4 (by first | trivial | exact HpRep.nil | assumption) (by kernel_rfl) fun s_ hs_ => ?_
  simp (maxSteps := 10000000) [SX.vc, SX.stop, SX.contS, SX.contB, SX.contW, SX.contR, SX.contD, SX.sxStep, SX.stepPure, SX.stepNew, SX.stepStore, SX.stepKeep, SX.guardIx, SX.evOp, SX.opd, SX.opds, SX.optOpd, SX.look, SX.putS, SX.gobs, SX.AllP, SX.leave, SX.lookC, SX.lookB, SX.lookT, SX.lookN, SX.findK, SX.evBuiltin, SX.ints, SX.foldI, SX.evBin, SX.evInt, SX.evStr, SX.evEq, SX.arith, SX.evLoad, SX.shapeUp, SX.evFieldAddr, SX.evField, SX.evIndexAddr, SX.evIndex, SX.evFill, SX.evBuild, SX.szs, SX.cellsV, SX.evNew, SX.evStore, SX.spliceL, SX.SV.cells, SX.evConv, SX.evSlice, SX.bnd, SX.evNil, SX.evUn, SX.evPick, SX.pickOpd, SX.popTo, SX.cnd, SX.env0, SX.TD.isAgg, SX.TD.isIface, SX.tails, SX.NotAgg, SX.evLookup, SX.evConvH, SX.evPtrEq, SX.isCells, SX.thaw, SX.frz, SX.fixB, SX.rootIx, SX.Froz, SX.frzStep, SX.fork, Go.Value.cells, Go.undef, cfg20, hB]
  refine ⟨by (unfold SX.Ob; first | trivial | omega | ((try simp only [SX.inK]); (try simp [SX.den, SX.IsU8, SX.AllP, *]); (try omega))), ?_⟩
  intro a5 w5 hr5 _
  refine post_call 40 [.v v, .v (.int .i64 lba), .v (.int .i64 1)] hr5 (wanted_none rfl) rfl (callable 40 Try.func40) (part_ok w5 v L lba 1 (hL.below hr5.keeps.toBelow) hC hB hn) ?_
  rintro e6 w6 ⟨i, k, v', rfl, hIK, hO, hb6⟩
  refine ⟨_, rfl, ?_⟩
  have hlen := partL_length (lba := lba) (n := 1) (i := i) (L := L) hIK.2.2.1
  rcases at_part hC hIK with ⟨hik, hf⟩ | ⟨hik, hf⟩
  · obtain ⟨vd, vc, rfl⟩ := hO.slice
    have h6 := hr5.ret hb6 21 (.tu [.v (.slice vd (partL L lba 1 i k).length vc), .v (.int .i64 i), .v (.int .i64 k)]) rfl _ (hr5.all.below hb6) (by simp) rfl
    rw [hf] at hA
    have hl0 : (partL L lba 1 i k).length = 0 := by omega
    refine seg cfg20_ok mixed PanicFree.body 1000 [true] [] h6 (by first | trivial | exact HpRep.nil | assumption) (by kernel_rfl) fun s_ hs_ => ?_
    simp (maxSteps := 10000000) [SX.vc, SX.stop, SX.contS, SX.contB, SX.contW, SX.contR, SX.contD, SX.sxStep, SX.stepPure, SX.stepNew, SX.stepStore, SX.stepKeep, SX.guardIx, SX.evOp, SX.opd, SX.opds, SX.optOpd, SX.look, SX.putS, SX.gobs, SX.AllP, SX.leave, SX.lookC, SX.lookB, SX.lookT, SX.lookN, SX.findK, SX.evBuiltin, SX.ints, SX.foldI, SX.evBin, SX.evInt, SX.evStr, SX.evEq, SX.arith, SX.evLoad, SX.shapeUp, SX.evFieldAddr, SX.evField, SX.evIndexAddr, SX.evIndex, SX.evFill, SX.evBuild, SX.szs, SX.cellsV, SX.evNew, SX.evStore, SX.spliceL, SX.SV.cells, SX.evConv, SX.evSlice, SX.bnd, SX.evNil, SX.evUn, SX.evPick, SX.pickOpd, SX.popTo, SX.cnd, SX.env0, SX.TD.isAgg, SX.TD.isIface, SX.tails, SX.NotAgg, SX.evLookup, SX.evConvH, SX.evPtrEq, SX.isCells, SX.thaw, SX.frz, SX.fixB, SX.rootIx, SX.Froz, SX.frzStep, SX.fork, Go.Value.cells, Go.undef, cfg20, hl0]
    refine ⟨by (unfold SX.Ob; first | trivial | omega | ((try simp only [SX.inK]); (try simp [SX.den, SX.IsU8, SX.AllP, *]); (try omega))), ?_⟩
    intro a7 w7 hr7 _
    exact post_retn (endC2 hr7 rfl rfl rfl tok51 rfl rfl ⟨by rw [hA]; simp [den, denL, extC, ext0], hr7.keeps.toBelow⟩).1
  · rw [hf] at hA
    have hl0 : 0 < (partL L lba 1 i k).length := by omega
    obtain ⟨b, N, cap, u, row, hP, hv, hc0, hc1, hc2, hrep, hrow⟩ := hO.opn hl0
    cases hv
    have hne : ¬ (partL L lba 1 i k).length = 0 := by omega
    have hx : nth ext0 (partL L lba 1 i k) 0 = clipE lba 1 (nth ext0 L i) := by
      have hkl := hIK.2.2.1
      have e1 : (partL L lba 1 i k)[0]? = some (clipE lba 1 (nth ext0 L i)) := by
        simp only [partL, List.getElem?_map, List.getElem?_take, List.getElem?_drop, Nat.add_zero]
        rw [if_pos (by omega), get_nth (d := ext0) (by omega)]
        rfl
      exact nth_get e1
    obtain ⟨x, hxx⟩ : ∃ x, x = clipE lba 1 (nth ext0 L i) := ⟨_, rfl⟩
    rw [← hxx] at hx
    have hrow0 : row 0 = [.v (.int .i64 x.lba), .v (.int .i64 x.n), .v (.int .i64 x.ver), .v (.int .i64 x.zone), .v (.int .i64 x.off)] := by rw [hrow 0 hl0, hx]; rfl
    have hA5 := hr5.all
    have l5 := SO.rep_lt hA5.1.1
    have h6 := hr5.ret hb6 21 (.tu [.sl 1 b 0 0 (partL L lba 1 i k).length cap 5, .v (.int .i64 i), .v (.int .i64 k)]) (v := .tuple #[.slice (some ⟨b, 0, none⟩) (partL L lba 1 i k).length cap, .int .i64 i, .int .i64 k]) (by simp [den, denL]) _ ((hA5.below hb6).append (x := (b, false, .arr 0 N row 5 u (0, 0))) hrep (by simp) (by simp; omega)) (by simp) rfl
    refine seg cfg20_ok mixed PanicFree.body 1000 [false] [] h6 (by first | trivial | exact HpRep.nil | assumption) (by kernel_rfl) fun s_ hs_ => ?_
    simp (maxSteps := 10000000) [SX.vc, SX.stop, SX.contS, SX.contB, SX.contW, SX.contR, SX.contD, SX.sxStep, SX.stepPure, SX.stepNew, SX.stepStore, SX.stepKeep, SX.guardIx, SX.evOp, SX.opd, SX.opds, SX.optOpd, SX.look, SX.putS, SX.gobs, SX.AllP, SX.leave, SX.lookC, SX.lookB, SX.lookT, SX.lookN, SX.findK, SX.evBuiltin, SX.ints, SX.foldI, SX.evBin, SX.evInt, SX.evStr, SX.evEq, SX.arith, SX.evLoad, SX.shapeUp, SX.evFieldAddr, SX.evField, SX.evIndexAddr, SX.evIndex, SX.evFill, SX.evBuild, SX.szs, SX.cellsV, SX.evNew, SX.evStore, SX.spliceL, SX.SV.cells, SX.evConv, SX.evSlice, SX.bnd, SX.evNil, SX.evUn, SX.evPick, SX.pickOpd, SX.popTo, SX.cnd, SX.env0, SX.TD.isAgg, SX.TD.isIface, SX.tails, SX.NotAgg, SX.evLookup, SX.evConvH, SX.evPtrEq, SX.isCells, SX.thaw, SX.frz, SX.fixB, SX.rootIx, SX.Froz, SX.frzStep, SX.fork, Go.Value.cells, Go.undef, cfg20, hne, hrow0]
    refine ⟨by (unfold SX.Ob; first | trivial | omega | ((try simp only [SX.inK]); (try simp [SX.den, SX.IsU8, SX.AllP, *]); (try omega))), ?_⟩
    intro a7 w7 hr7 _
    exact post_retn (endC2 hr7 rfl rfl rfl tok51 rfl rfl ⟨by rw [hA]; simp [← hxx, den, denL, extC], hr7.keeps.toBelow⟩).1
end Go.Proofs
