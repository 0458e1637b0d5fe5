/- Spans: the document's Cut. -/
import Derived.Test.YtpgknabmpghcoaaPX
namespace Go.Proofs
set_option linter.unusedVariables false
set_option linter.unusedSimpArgs false
open Go Go.SX Go.RowKit

def R1Loop (w : World) (v va : Value) (L : List Spn) (A : List Int) (m : Nat) (a : Act) (w' : World) : Prop :=
  ∃ k : Nat, m = A.length - k ∧ k ≤ A.length ∧ (∀ j, j < k → ¬ OutP L (nth 0 A j)) ∧
    RepX (frame0 w) ⟨[(16, 0, .v (.int .i64 k)), (15, 0, .v (.int .i64 A.length)), (14, 0, .v va), (0, 0, .v v), (1, 0, .v va), (4, 0, .v (.slice none 0 0)), (5, 0, .v (.int .i64 0))], [], 0, 0, 42, [], [], []⟩ a w'
def R2Loop (w : World) (va : Value) (L : List Spn) (A : List Int) (m : Nat) (a : Act) (w' : World) : Prop :=
  ∃ (k : Nat) (out : List Spn) (v' : Value), m = A.length - k ∧ k ≤ A.length ∧ cutsS (A.drop k) out = cutsS A L ∧ ChkS 0 out ∧ out.length ≤ L.length + k ∧ OwP (fun x => w.heap.size ≤ x) w' v' out ∧
    RepX (frame0 w) ⟨[(33, 0, .v (.int .i64 k)), (32, 0, .v (.int .i64 A.length)), (31, 0, .v va), (8, 0, .v v'), (4, 0, .v (.slice none 0 0)), (5, 0, .v (.int .i64 0))], [], 0, 0, 42, [], [], []⟩ a w'

set_option maxRecDepth 100000 in
set_option maxHeartbeats 16000000 in
/-- The document's Cut. -/
theorem rCut_ok {P P' : Nat → Prop} (w : World) (v va : Value) (L : List Spn) (A : List Int) (hL : RdP P w v L) (hA : RdI P' w va A) (hn : L.length ≤ 100000) (hnA : A.length ≤ 100000) : Calls Try.prog 19 (denL [.v v, .v va]).toArray w (CutR w L A) := by
  obtain ⟨ad, cp, rfl⟩ := hL.slice
  obtain ⟨ad', cp', rfl⟩ := hA.slice
  refine enter (F := frame0 w) Try.func19 rfl [.v (.slice ad L.length cp), .v (.slice ad' A.length cp')] [] (by simp [Try.f19]) trivial (keeps0 w) fun a hr => ?_
  refine seg cfg19_ok mixed PanicFree.body 1000 [] [] hr (by first | trivial | exact HpRep.nil | assumption) (by kernel_rfl) fun s_ hs_ => ?_
  simp (maxSteps := 10000000) [SX.vc, SX.stop, SX.contS, SX.contB, SX.contW, SX.contR, SX.contD, SX.sxStep, SX.stepPure, SX.stepNew, SX.stepStore, SX.stepKeep, SX.guardIx, SX.evOp, SX.opd, SX.opds, SX.optOpd, SX.look, SX.putS, SX.gobs, SX.AllP, SX.leave, SX.lookC, SX.lookB, SX.lookT, SX.lookN, SX.findK, SX.evBuiltin, SX.ints, SX.foldI, SX.evBin, SX.evInt, SX.evStr, SX.evEq, SX.arith, SX.evLoad, SX.shapeUp, SX.evFieldAddr, SX.evField, SX.evIndexAddr, SX.evIndex, SX.evFill, SX.evBuild, SX.szs, SX.cellsV, SX.evNew, SX.evStore, SX.spliceL, SX.SV.cells, SX.evConv, SX.evSlice, SX.bnd, SX.evNil, SX.evUn, SX.evPick, SX.pickOpd, SX.popTo, SX.cnd, SX.env0, SX.TD.isAgg, SX.TD.isIface, SX.tails, SX.NotAgg, SX.evLookup, SX.evConvH, SX.evPtrEq, SX.isCells, SX.thaw, SX.frz, SX.fixB, SX.rootIx, SX.Froz, SX.frzStep, SX.fork, Go.Value.cells, Go.undef, cfg19, Try.f19]
  refine ⟨by (unfold SX.Ob; first | trivial | omega | ((try simp only [SX.inK]); (try simp [SX.den, SX.IsU8, SX.AllP, *]); (try omega))), ?_⟩
  intro a1 w1 hr1 _
  refine post_call 11 [.v (.slice ad L.length cp)] hr1 (by first | exact wanted_none rfl | exact wanted_zero (hr1.env.same rfl rfl rfl rfl) rfl (by simp)) rfl (callable 11 Try.func11) (rcheck_ok w1 _ L (hL.below hr1.keeps.toBelow) (by omega)) ?_
  rintro e2 w2 ⟨rfl, hb2⟩
  refine ⟨_, rfl, ?_⟩
  have h2 := hr1.ret hb2 12 (.v (.int .i64 (chkP L))) rfl _ (hr1.all.below hb2) (by simp) rfl
  by_cases hC : ChkP L
  rotate_left
  · have hc : chkP L = 1 := if_neg hC
    have hE : cutE L A = 1 := if_neg fun h => hC h.1
    have hG : cutL L A = [] := if_neg fun h => hC h.1
    refine seg cfg19_ok mixed PanicFree.body 1000 [true] [] h2 (by first | trivial | exact HpRep.nil | assumption) (by kernel_rfl) fun s_ hs_ => ?_
    simp (maxSteps := 10000000) [SX.vc, SX.stop, SX.contS, SX.contB, SX.contW, SX.contR, SX.contD, SX.sxStep, SX.stepPure, SX.stepNew, SX.stepStore, SX.stepKeep, SX.guardIx, SX.evOp, SX.opd, SX.opds, SX.optOpd, SX.look, SX.putS, SX.gobs, SX.AllP, SX.leave, SX.lookC, SX.lookB, SX.lookT, SX.lookN, SX.findK, SX.evBuiltin, SX.ints, SX.foldI, SX.evBin, SX.evInt, SX.evStr, SX.evEq, SX.arith, SX.evLoad, SX.shapeUp, SX.evFieldAddr, SX.evField, SX.evIndexAddr, SX.evIndex, SX.evFill, SX.evBuild, SX.szs, SX.cellsV, SX.evNew, SX.evStore, SX.spliceL, SX.SV.cells, SX.evConv, SX.evSlice, SX.bnd, SX.evNil, SX.evUn, SX.evPick, SX.pickOpd, SX.popTo, SX.cnd, SX.env0, SX.TD.isAgg, SX.TD.isIface, SX.tails, SX.NotAgg, SX.evLookup, SX.evConvH, SX.evPtrEq, SX.isCells, SX.thaw, SX.frz, SX.fixB, SX.rootIx, SX.Froz, SX.frzStep, SX.fork, Go.Value.cells, Go.undef, cfg19, hc]
    refine ⟨by (unfold SX.Ob; first | trivial | omega | ((try simp only [SX.inK]); (try simp [SX.den, SX.IsU8, SX.AllP, *]); (try omega))), ?_⟩
    intro a3 w3 hr3 _
    exact post_retn (end2 hr3 rfl rfl rfl ⟨.slice none 0 0, by rw [hE]; simp [den, denL], by rw [hG]; exact OwS.nil, hr3.keeps.toBelow⟩).1
  have hc : chkP L = 0 := if_pos hC
  refine seg cfg19_ok mixed PanicFree.body 1000 [false] [] h2 (by first | trivial | exact HpRep.nil | assumption) (by kernel_rfl) fun s_ hs_ => ?_
  simp (maxSteps := 10000000) [SX.vc, SX.stop, SX.contS, SX.contB, SX.contW, SX.contR, SX.contD, SX.sxStep, SX.stepPure, SX.stepNew, SX.stepStore, SX.stepKeep, SX.guardIx, SX.evOp, SX.opd, SX.opds, SX.optOpd, SX.look, SX.putS, SX.gobs, SX.AllP, SX.leave, SX.lookC, SX.lookB, SX.lookT, SX.lookN, SX.findK, SX.evBuiltin, SX.ints, SX.foldI, SX.evBin, SX.evInt, SX.evStr, SX.evEq, SX.arith, SX.evLoad, SX.shapeUp, SX.evFieldAddr, SX.evField, SX.evIndexAddr, SX.evIndex, SX.evFill, SX.evBuild, SX.szs, SX.cellsV, SX.evNew, SX.evStore, SX.spliceL, SX.SV.cells, SX.evConv, SX.evSlice, SX.bnd, SX.evNil, SX.evUn, SX.evPick, SX.pickOpd, SX.popTo, SX.cnd, SX.env0, SX.TD.isAgg, SX.TD.isIface, SX.tails, SX.NotAgg, SX.evLookup, SX.evConvH, SX.evPtrEq, SX.isCells, SX.thaw, SX.frz, SX.fixB, SX.rootIx, SX.Froz, SX.frzStep, SX.fork, Go.Value.cells, Go.undef, cfg19, hc]
  refine ⟨by (unfold SX.Ob; first | trivial | omega | ((try simp only [SX.inK]); (try simp [SX.den, SX.IsU8, SX.AllP, *]); (try omega))), ?_⟩
  intro a3 w3 hr3 _
  refine post_loop (R1Loop w (.slice ad L.length cp) (.slice ad' A.length cp') L A) A.length ⟨0, rfl, by omega, by omega, hr3.re (by simp [envTo, SX.look]) trivial rfl rfl⟩ ?_
  rintro m a4 w4 ⟨k, rfl, hk, hs, hr4⟩
  by_cases hlt : k < A.length
  · obtain ⟨b, o0, cap, u, fz, hP, hv, hrep⟩ := hA.opn hlt
    cases hv
    have hrep2 := SO.rep_same hrep (hr4.keeps.toBelow.block _ (SO.rep_lt hrep))
    obtain ⟨x, hx⟩ : ∃ x, nth (0 : Int) A k = x := ⟨_, rfl⟩
    have hxA : x ∈ A := hx ▸ nth_mem hlt
    have h5 := (hr4.top 14 (.sl 0 b o0 0 A.length cp' 1) rfl (by simp [den])).see _ (HpAll.one hrep2)
    have bad : OutP L x → cutE L A = 1 ∧ cutL L A = [] := fun h => ⟨if_neg fun h' => h'.2 ⟨x, hxA, h⟩, if_neg fun h' => h'.2 ⟨x, hxA, h⟩⟩
    by_cases hx0 : x ≤ 0
    · obtain ⟨hE, hG⟩ := bad (.inl hx0)
      refine seg cfg19_ok mixed PanicFree.body 1000 [true, true] [(22, true)] h5 (by first | trivial | exact HpRep.nil | assumption) (by kernel_rfl) fun s_ hs_ => ?_
      simp (maxSteps := 10000000) [SX.vc, SX.stop, SX.contS, SX.contB, SX.contW, SX.contR, SX.contD, SX.sxStep, SX.stepPure, SX.stepNew, SX.stepStore, SX.stepKeep, SX.guardIx, SX.evOp, SX.opd, SX.opds, SX.optOpd, SX.look, SX.putS, SX.gobs, SX.AllP, SX.leave, SX.lookC, SX.lookB, SX.lookT, SX.lookN, SX.findK, SX.evBuiltin, SX.ints, SX.foldI, SX.evBin, SX.evInt, SX.evStr, SX.evEq, SX.arith, SX.evLoad, SX.shapeUp, SX.evFieldAddr, SX.evField, SX.evIndexAddr, SX.evIndex, SX.evFill, SX.evBuild, SX.szs, SX.cellsV, SX.evNew, SX.evStore, SX.spliceL, SX.SV.cells, SX.evConv, SX.evSlice, SX.bnd, SX.evNil, SX.evUn, SX.evPick, SX.pickOpd, SX.popTo, SX.cnd, SX.env0, SX.TD.isAgg, SX.TD.isIface, SX.tails, SX.NotAgg, SX.evLookup, SX.evConvH, SX.evPtrEq, SX.isCells, SX.thaw, SX.frz, SX.fixB, SX.rootIx, SX.Froz, SX.frzStep, SX.fork, Go.Value.cells, Go.undef, cfg19, intC, hx, hx0]
      refine ⟨by (unfold SX.Ob; first | trivial | omega | ((try simp only [SX.inK]); (try simp [SX.den, SX.IsU8, SX.AllP, *]); (try omega))), ?_⟩
      intro a6 w6 hr6 _
      exact post_retn (end2 hr6 rfl rfl rfl ⟨.slice none 0 0, by rw [hE]; simp [den, denL], by rw [hG]; exact OwS.nil, hr6.keeps.toBelow⟩).1
    refine seg cfg19_ok mixed PanicFree.body 1000 [true] [(22, false)] h5 (by first | trivial | exact HpRep.nil | assumption) (by kernel_rfl) fun s_ hs_ => ?_
    simp (maxSteps := 10000000) [SX.vc, SX.stop, SX.contS, SX.contB, SX.contW, SX.contR, SX.contD, SX.sxStep, SX.stepPure, SX.stepNew, SX.stepStore, SX.stepKeep, SX.guardIx, SX.evOp, SX.opd, SX.opds, SX.optOpd, SX.look, SX.putS, SX.gobs, SX.AllP, SX.leave, SX.lookC, SX.lookB, SX.lookT, SX.lookN, SX.findK, SX.evBuiltin, SX.ints, SX.foldI, SX.evBin, SX.evInt, SX.evStr, SX.evEq, SX.arith, SX.evLoad, SX.shapeUp, SX.evFieldAddr, SX.evField, SX.evIndexAddr, SX.evIndex, SX.evFill, SX.evBuild, SX.szs, SX.cellsV, SX.evNew, SX.evStore, SX.spliceL, SX.SV.cells, SX.evConv, SX.evSlice, SX.bnd, SX.evNil, SX.evUn, SX.evPick, SX.pickOpd, SX.popTo, SX.cnd, SX.env0, SX.TD.isAgg, SX.TD.isIface, SX.tails, SX.NotAgg, SX.evLookup, SX.evConvH, SX.evPtrEq, SX.isCells, SX.thaw, SX.frz, SX.fixB, SX.rootIx, SX.Froz, SX.frzStep, SX.fork, Go.Value.cells, Go.undef, cfg19, intC, hx, hx0]
    refine ⟨by (unfold SX.Ob; first | trivial | omega | ((try simp only [SX.inK]); (try simp [SX.den, SX.IsU8, SX.AllP, *]); (try omega))), ?_⟩
    intro a6 w6 hr6 _
    refine post_call 34 [.v (.slice ad L.length cp)] hr6 (by first | exact wanted_none rfl | exact wanted_zero (hr6.env.same rfl rfl rfl rfl) rfl (by simp)) rfl (callable 34 Try.func34) (end_ok w6 _ L (hL.below hr6.keeps.toBelow) hC.ne (by omega)) ?_
    rintro e7 w7 ⟨rfl, hb7⟩
    refine ⟨_, rfl, ?_⟩
    have h7 := hr6.ret hb7 25 (.v (.int .i64 (endS 0 L))) rfl _ (hr6.all.below hb7) (by simp) rfl
    by_cases hx1 : endS 0 L ≤ x
    · obtain ⟨hE, hG⟩ := bad (.inr hx1)
      refine seg cfg19_ok mixed PanicFree.body 1000 [true] [(22, false)] h7 (by first | trivial | exact HpRep.nil | assumption) (by kernel_rfl) fun s_ hs_ => ?_
      simp (maxSteps := 10000000) [SX.vc, SX.stop, SX.contS, SX.contB, SX.contW, SX.contR, SX.contD, SX.sxStep, SX.stepPure, SX.stepNew, SX.stepStore, SX.stepKeep, SX.guardIx, SX.evOp, SX.opd, SX.opds, SX.optOpd, SX.look, SX.putS, SX.gobs, SX.AllP, SX.leave, SX.lookC, SX.lookB, SX.lookT, SX.lookN, SX.findK, SX.evBuiltin, SX.ints, SX.foldI, SX.evBin, SX.evInt, SX.evStr, SX.evEq, SX.arith, SX.evLoad, SX.shapeUp, SX.evFieldAddr, SX.evField, SX.evIndexAddr, SX.evIndex, SX.evFill, SX.evBuild, SX.szs, SX.cellsV, SX.evNew, SX.evStore, SX.spliceL, SX.SV.cells, SX.evConv, SX.evSlice, SX.bnd, SX.evNil, SX.evUn, SX.evPick, SX.pickOpd, SX.popTo, SX.cnd, SX.env0, SX.TD.isAgg, SX.TD.isIface, SX.tails, SX.NotAgg, SX.evLookup, SX.evConvH, SX.evPtrEq, SX.isCells, SX.thaw, SX.frz, SX.fixB, SX.rootIx, SX.Froz, SX.frzStep, SX.fork, Go.Value.cells, Go.undef, cfg19, hx1]
      refine ⟨by (unfold SX.Ob; first | trivial | omega | ((try simp only [SX.inK]); (try simp [SX.den, SX.IsU8, SX.AllP, *]); (try omega))), ?_⟩
      intro a8 w8 hr8 _
      exact post_retn (end2 hr8 rfl rfl rfl ⟨.slice none 0 0, by rw [hE]; simp [den, denL], by rw [hG]; exact OwS.nil, hr8.keeps.toBelow⟩).1
    · refine seg cfg19_ok mixed PanicFree.body 1000 [false] [(22, false)] h7 (by first | trivial | exact HpRep.nil | assumption) (by kernel_rfl) fun s_ hs_ => ?_
      simp (maxSteps := 10000000) [SX.vc, SX.stop, SX.contS, SX.contB, SX.contW, SX.contR, SX.contD, SX.sxStep, SX.stepPure, SX.stepNew, SX.stepStore, SX.stepKeep, SX.guardIx, SX.evOp, SX.opd, SX.opds, SX.optOpd, SX.look, SX.putS, SX.gobs, SX.AllP, SX.leave, SX.lookC, SX.lookB, SX.lookT, SX.lookN, SX.findK, SX.evBuiltin, SX.ints, SX.foldI, SX.evBin, SX.evInt, SX.evStr, SX.evEq, SX.arith, SX.evLoad, SX.shapeUp, SX.evFieldAddr, SX.evField, SX.evIndexAddr, SX.evIndex, SX.evFill, SX.evBuild, SX.szs, SX.cellsV, SX.evNew, SX.evStore, SX.spliceL, SX.SV.cells, SX.evConv, SX.evSlice, SX.bnd, SX.evNil, SX.evUn, SX.evPick, SX.pickOpd, SX.popTo, SX.cnd, SX.env0, SX.TD.isAgg, SX.TD.isIface, SX.tails, SX.NotAgg, SX.evLookup, SX.evConvH, SX.evPtrEq, SX.isCells, SX.thaw, SX.frz, SX.fixB, SX.rootIx, SX.Froz, SX.frzStep, SX.fork, Go.Value.cells, Go.undef, cfg19, hx1]
      refine ⟨by (unfold SX.Ob; first | trivial | omega | ((try simp only [SX.inK]); (try simp [SX.den, SX.IsU8, SX.AllP, *]); (try omega))), ?_⟩
      intro a8 w8 hr8 _
      exact post_rnd (A.length - (k + 1)) (by omega) ⟨k + 1, rfl, hlt, fun j hj => (by
        rcases Nat.lt_or_ge j k with h | h
        · exact hs j h
        · obtain rfl : j = k := by omega
          rw [hx]
          rintro (h' | h')
          · exact hx0 h'
          · exact hx1 h'), hr8.re (by simp [envTo, SX.look, den]) trivial rfl rfl⟩
  obtain rfl : k = A.length := by omega
  have hX : ¬ ∃ a ∈ A, OutP L a := by
    rintro ⟨y, hy, hM⟩
    obtain ⟨j, hj, rfl⟩ := List.mem_iff_getElem.1 hy
    have := hs j hj
    rw [nth_lt hj] at this
    exact this hM
  have hE : cutE L A = 0 := if_pos ⟨hC, hX⟩
  have hG : cutL L A = cutsS A L := if_pos ⟨hC, hX⟩
  refine seg cfg19_ok mixed PanicFree.body 1000 [false] [] hr4 (by first | trivial | exact HpRep.nil | assumption) (by kernel_rfl) fun s_ hs_ => ?_
  simp (maxSteps := 10000000) [SX.vc, SX.stop, SX.contS, SX.contB, SX.contW, SX.contR, SX.contD, SX.sxStep, SX.stepPure, SX.stepNew, SX.stepStore, SX.stepKeep, SX.guardIx, SX.evOp, SX.opd, SX.opds, SX.optOpd, SX.look, SX.putS, SX.gobs, SX.AllP, SX.leave, SX.lookC, SX.lookB, SX.lookT, SX.lookN, SX.findK, SX.evBuiltin, SX.ints, SX.foldI, SX.evBin, SX.evInt, SX.evStr, SX.evEq, SX.arith, SX.evLoad, SX.shapeUp, SX.evFieldAddr, SX.evField, SX.evIndexAddr, SX.evIndex, SX.evFill, SX.evBuild, SX.szs, SX.cellsV, SX.evNew, SX.evStore, SX.spliceL, SX.SV.cells, SX.evConv, SX.evSlice, SX.bnd, SX.evNil, SX.evUn, SX.evPick, SX.pickOpd, SX.popTo, SX.cnd, SX.env0, SX.TD.isAgg, SX.TD.isIface, SX.tails, SX.NotAgg, SX.evLookup, SX.evConvH, SX.evPtrEq, SX.isCells, SX.thaw, SX.frz, SX.fixB, SX.rootIx, SX.Froz, SX.frzStep, SX.fork, Go.Value.cells, Go.undef, cfg19]
  refine ⟨by (unfold SX.Ob; first | trivial | omega | ((try simp only [SX.inK]); (try simp [SX.den, SX.IsU8, SX.AllP, *]); (try omega))), ?_⟩
  intro a6 w6 hr6 _
  have z6 : w.heap.size ≤ w6.heap.size := hr6.keeps.size
  refine post_app (C := cfg19) cfg19_ok hr6 (by first | exact wanted_none rfl | exact wanted_zero (hr6.env.same rfl rfl rfl rfl) rfl (by simp)) rfl (by simp) rfl rfl rfl rfl rfl rfl rfl rfl rfl (by decide) (flatS _) (by (try simp only [List.length_append, List.length_cons, List.length_nil, List.length_map, List.length_take]); omega) (fun x hx => Nat.le_trans z6 hx) (OwS.nil (P := fun x => w.heap.size ≤ x)) (hL.below hr6.keeps.toBelow) [] (fun _ _ _ _ => trivial) (fun x hx => .inl hx) fun V7 a7 w7 B7 hO7 hB7 hk7 hr7 => ?_
  refine seg cfg19_ok mixed PanicFree.body 1000 [] [] hr7.rebase (by first | trivial | exact HpRep.nil | assumption) (by kernel_rfl) fun s_ hs_ => ?_
  simp (maxSteps := 10000000) [SX.vc, SX.stop, SX.contS, SX.contB, SX.contW, SX.contR, SX.contD, SX.sxStep, SX.stepPure, SX.stepNew, SX.stepStore, SX.stepKeep, SX.guardIx, SX.evOp, SX.opd, SX.opds, SX.optOpd, SX.look, SX.putS, SX.gobs, SX.AllP, SX.leave, SX.lookC, SX.lookB, SX.lookT, SX.lookN, SX.findK, SX.evBuiltin, SX.ints, SX.foldI, SX.evBin, SX.evInt, SX.evStr, SX.evEq, SX.arith, SX.evLoad, SX.shapeUp, SX.evFieldAddr, SX.evField, SX.evIndexAddr, SX.evIndex, SX.evFill, SX.evBuild, SX.szs, SX.cellsV, SX.evNew, SX.evStore, SX.spliceL, SX.SV.cells, SX.evConv, SX.evSlice, SX.bnd, SX.evNil, SX.evUn, SX.evPick, SX.pickOpd, SX.popTo, SX.cnd, SX.env0, SX.TD.isAgg, SX.TD.isIface, SX.tails, SX.NotAgg, SX.evLookup, SX.evConvH, SX.evPtrEq, SX.isCells, SX.thaw, SX.frz, SX.fixB, SX.rootIx, SX.Froz, SX.frzStep, SX.fork, Go.Value.cells, Go.undef, cfg19]
  refine ⟨by (unfold SX.Ob; first | trivial | omega | ((try simp only [SX.inK]); (try simp [SX.den, SX.IsU8, SX.AllP, *]); (try omega))), ?_⟩
  intro a8 w8 hr8' _
  have hr8 := hr7.unbase hr8'
  refine post_loop (R2Loop w (.slice ad' A.length cp') L A) A.length ⟨0, L, V7, rfl, by omega, rfl, hC.1, by omega, hO7.keep hr8'.keeps (by simp [frameAt, mutB]), hr8.re (by simp [envTo, SX.look, den]) trivial rfl rfl⟩ ?_
  rintro m a9 w9 ⟨k, out, v', rfl, hk, hj, hch, hol, hO, hr9⟩
  have z9 : w.heap.size ≤ w9.heap.size := hr9.keeps.size
  by_cases hlt : k < A.length
  · obtain ⟨b, o0, cap, u, fz, hP, hv, hrep⟩ := hA.opn hlt
    cases hv
    have hrep2 := SO.rep_same hrep (hr9.keeps.toBelow.block _ (SO.rep_lt hrep))
    obtain ⟨x, hx⟩ : ∃ x, nth (0 : Int) A k = x := ⟨_, rfl⟩
    rw [drop_nth (d := (0 : Int)) hlt, hx, cutsS] at hj
    have h10 := (hr9.top 31 (.sl 0 b o0 0 A.length cp' 1) rfl (by simp [den])).see _ (HpAll.one hrep2)
    refine seg cfg19_ok mixed PanicFree.body 1000 [true] [] h10.rebase (by first | trivial | exact HpRep.nil | assumption) (by kernel_rfl) fun s_ hs_ => ?_
    simp (maxSteps := 10000000) [SX.vc, SX.stop, SX.contS, SX.contB, SX.contW, SX.contR, SX.contD, SX.sxStep, SX.stepPure, SX.stepNew, SX.stepStore, SX.stepKeep, SX.guardIx, SX.evOp, SX.opd, SX.opds, SX.optOpd, SX.look, SX.putS, SX.gobs, SX.AllP, SX.leave, SX.lookC, SX.lookB, SX.lookT, SX.lookN, SX.findK, SX.evBuiltin, SX.ints, SX.foldI, SX.evBin, SX.evInt, SX.evStr, SX.evEq, SX.arith, SX.evLoad, SX.shapeUp, SX.evFieldAddr, SX.evField, SX.evIndexAddr, SX.evIndex, SX.evFill, SX.evBuild, SX.szs, SX.cellsV, SX.evNew, SX.evStore, SX.spliceL, SX.SV.cells, SX.evConv, SX.evSlice, SX.bnd, SX.evNil, SX.evUn, SX.evPick, SX.pickOpd, SX.popTo, SX.cnd, SX.env0, SX.TD.isAgg, SX.TD.isIface, SX.tails, SX.NotAgg, SX.evLookup, SX.evConvH, SX.evPtrEq, SX.isCells, SX.thaw, SX.frz, SX.fixB, SX.rootIx, SX.Froz, SX.frzStep, SX.fork, Go.Value.cells, Go.undef, cfg19, intC, hx]
    refine ⟨by (unfold SX.Ob; first | trivial | omega | ((try simp only [SX.inK]); (try simp [SX.den, SX.IsU8, SX.AllP, *]); (try omega))), ?_⟩
    intro a11 w11 hr11' _
    have hr11 := h10.unbase hr11'
    have z11 : w.heap.size ≤ w11.heap.size := hr11.keeps.size
    have hO11 := hO.keep hr11'.keeps (by simp [frameAt, mutB])
    refine post_call 35 [.v v', .v (.int .i64 x)] hr11 (by first | exact wanted_none rfl | exact wanted_zero (hr11.env.same rfl rfl rfl rfl) rfl (by simp)) rfl (callable 35 Try.func35) (rcut_ok w11 v' out x hO11.rd (by omega)) ?_
    rintro e12 w12 ⟨v12, rfl, hO12, hb12⟩
    refine ⟨_, rfl, ?_⟩
    have h12' := hr11.ret hb12 39 (.v v12) rfl _ (hr11.all.below hb12) (by simp) rfl
    have h12 := h12'.see [] trivial
    rw [rcutS_eq hch] at hO12
    refine seg cfg19_ok mixed PanicFree.body 1000 [] [] h12.rebase (by first | trivial | exact HpRep.nil | assumption) (by kernel_rfl) fun s_ hs_ => ?_
    simp (maxSteps := 10000000) [SX.vc, SX.stop, SX.contS, SX.contB, SX.contW, SX.contR, SX.contD, SX.sxStep, SX.stepPure, SX.stepNew, SX.stepStore, SX.stepKeep, SX.guardIx, SX.evOp, SX.opd, SX.opds, SX.optOpd, SX.look, SX.putS, SX.gobs, SX.AllP, SX.leave, SX.lookC, SX.lookB, SX.lookT, SX.lookN, SX.findK, SX.evBuiltin, SX.ints, SX.foldI, SX.evBin, SX.evInt, SX.evStr, SX.evEq, SX.arith, SX.evLoad, SX.shapeUp, SX.evFieldAddr, SX.evField, SX.evIndexAddr, SX.evIndex, SX.evFill, SX.evBuild, SX.szs, SX.cellsV, SX.evNew, SX.evStore, SX.spliceL, SX.SV.cells, SX.evConv, SX.evSlice, SX.bnd, SX.evNil, SX.evUn, SX.evPick, SX.pickOpd, SX.popTo, SX.cnd, SX.env0, SX.TD.isAgg, SX.TD.isIface, SX.tails, SX.NotAgg, SX.evLookup, SX.evConvH, SX.evPtrEq, SX.isCells, SX.thaw, SX.frz, SX.fixB, SX.rootIx, SX.Froz, SX.frzStep, SX.fork, Go.Value.cells, Go.undef, cfg19]
    refine ⟨by (unfold SX.Ob; first | trivial | omega | ((try simp only [SX.inK]); (try simp [SX.den, SX.IsU8, SX.AllP, *]); (try omega))), ?_⟩
    intro a13 w13 hr13' _
    have hr13 := h12.unbase hr13'
    have hl := cutS_len x out
    exact post_rnd (A.length - (k + 1)) (by omega) ⟨k + 1, _, v12, rfl, hlt, hj, (cutS_facts x hch).1, by omega, (hO12.mono (P' := fun x => w.heap.size ≤ x) fun x _ h => by omega).keep hr13'.keeps (by simp [frameAt, mutB]), hr13.re (by simp [envTo, SX.look, den]) trivial rfl rfl⟩
  · obtain rfl : k = A.length := by omega
    refine seg cfg19_ok mixed PanicFree.body 1000 [false] [] hr9.rebase (by first | trivial | exact HpRep.nil | assumption) (by kernel_rfl) fun s_ hs_ => ?_
    simp (maxSteps := 10000000) [SX.vc, SX.stop, SX.contS, SX.contB, SX.contW, SX.contR, SX.contD, SX.sxStep, SX.stepPure, SX.stepNew, SX.stepStore, SX.stepKeep, SX.guardIx, SX.evOp, SX.opd, SX.opds, SX.optOpd, SX.look, SX.putS, SX.gobs, SX.AllP, SX.leave, SX.lookC, SX.lookB, SX.lookT, SX.lookN, SX.findK, SX.evBuiltin, SX.ints, SX.foldI, SX.evBin, SX.evInt, SX.evStr, SX.evEq, SX.arith, SX.evLoad, SX.shapeUp, SX.evFieldAddr, SX.evField, SX.evIndexAddr, SX.evIndex, SX.evFill, SX.evBuild, SX.szs, SX.cellsV, SX.evNew, SX.evStore, SX.spliceL, SX.SV.cells, SX.evConv, SX.evSlice, SX.bnd, SX.evNil, SX.evUn, SX.evPick, SX.pickOpd, SX.popTo, SX.cnd, SX.env0, SX.TD.isAgg, SX.TD.isIface, SX.tails, SX.NotAgg, SX.evLookup, SX.evConvH, SX.evPtrEq, SX.isCells, SX.thaw, SX.frz, SX.fixB, SX.rootIx, SX.Froz, SX.frzStep, SX.fork, Go.Value.cells, Go.undef, cfg19]
    refine ⟨by (unfold SX.Ob; first | trivial | omega | ((try simp only [SX.inK]); (try simp [SX.den, SX.IsU8, SX.AllP, *]); (try omega))), ?_⟩
    intro a11 w11 hr11' _
    have hr11 := hr9.unbase hr11'
    refine post_retn (end2 hr11 rfl rfl rfl ⟨v', by rw [hE]; simp [den, denL], ?_, hr11.keeps.toBelow⟩).1
    rw [hG, ← hj, List.drop_length, cutsS]
    exact hO.keep hr11'.keeps (by simp [frameAt, mutB])
end Go.Proofs
