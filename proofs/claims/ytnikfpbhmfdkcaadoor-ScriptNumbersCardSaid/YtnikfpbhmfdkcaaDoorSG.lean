/- Script: an act's numbers. -/
import Derived.Test.YtnikfpbhmfdkcaaDoorSE
namespace Go.Proofs
set_option linter.unusedVariables false
set_option linter.unusedSimpArgs false
set_option linter.unusedSectionVars false
open Go Go.SX Go.RowKit Go.Script

/-- A block of bytes. -/
def isB5 (o : Option Obj) : Bool := match o with
  | some (.cells _ t _) => t == 5
  | _ => false
/-- A pointer to an act's number; 5: to its byte's. -/
def pRow (ba oa bb : Nat) (k : Nat) : List SV := [.v (.pointer (some (if k = 5 then ⟨bb, 0, none⟩ else ⟨ba, oa + k, none⟩)))]

set_option maxRecDepth 100000 in
set_option maxHeartbeats 16000000 in
/-- fields of an act of its own. -/
theorem fields0_ok (w : World) (ba bb : Nat) (c0 c1 c2 c3 c4 c5 c6 : Int) (h : w.heap[ba]? = some (.cells (denL [.v (.int .i64 c0), .v (.int .i64 c1), .v (.int .i64 c2), .v (.int .i64 c3), .v (.int .i64 c4), .v (.int .u8 c5), .v (.int .i64 c6)]).toArray 37 (0, 0))) : Calls Tryd.prog 27 (denL [.ptr 0 ba 0, .v (.pointer (some ⟨bb, 0, none⟩))]).toArray w fun e w' => (∃ v, e = .returned v ∧ RdS (pRow ba 0 bb) 1 0 (fun y => w.heap.size ≤ y ∧ isB5 w'.heap[y]? = false) w' v (flds c0)) ∧ Below w.heap.size w w' := by
  refine enter (F := frame0 w) Tryd.func27 rfl [.ptr 0 ba 0, .v (.pointer (some ⟨bb, 0, none⟩))] [(ba, false, .cells [.v (.int .i64 c0), .v (.int .i64 c1), .v (.int .i64 c2), .v (.int .i64 c3), .v (.int .i64 c4), .v (.int .u8 c5), .v (.int .i64 c6)] 37)] (by simp [Tryd.f27]) ⟨⟨h, by simp, by simp⟩, trivial⟩ (keeps0 w) fun a hr => ?_
  by_cases h1 : c0 = 1
  · subst h1
    refine seg cfg27_ok mixed PanicFree.body 1000 [true, true] [] hr (by first | trivial | exact HpRep.nil | assumption) (by kernel_rfl) fun sS hsS => ?_
    simp (maxSteps := 10000000) [SX.vc, SX.stop, SX.contS, SX.contB, SX.contW, SX.contR, SX.contD, SX.sxStep, SX.stepPure, SX.stepNew, SX.stepStore, SX.stepKeep, SX.guardIx, SX.evOp, SX.opd, SX.opds, SX.optOpd, SX.look, SX.putS, SX.gobs, SX.AllP, SX.leave, SX.lookC, SX.lookB, SX.lookT, SX.lookN, SX.findK, SX.evBuiltin, SX.ints, SX.foldI, SX.evBin, SX.evInt, SX.evStr, SX.evEq, SX.arith, SX.evLoad, SX.shapeUp, SX.evFieldAddr, SX.evField, SX.evIndexAddr, SX.evIndex, SX.evFill, SX.evBuild, SX.szs, SX.cellsV, SX.evNew, SX.evStore, SX.spliceL, SX.SV.cells, SX.evConv, SX.evSlice, SX.bnd, SX.evNil, SX.evUn, SX.evPick, SX.pickOpd, SX.popTo, SX.cnd, SX.env0, SX.TD.isAgg, SX.TD.isIface, SX.tails, SX.NotAgg, SX.evLookup, SX.evConvH, SX.evPtrEq, SX.isCells, SX.thaw, SX.frz, SX.fixB, SX.rootIx, SX.Froz, SX.frzStep, SX.fork, Go.Value.cells, Go.undef, cfg27, Tryd.f27]
    refine ⟨by (unfold SX.Ob; first | trivial | omega | ((try simp only [SX.inK]); (try simp [SX.den, SX.IsU8, SX.AllP, *]); (try omega))), ?_⟩
    intro a1 w1 hr1 _
    refine post_retn (end1 hr1 rfl rfl ⟨⟨_, rfl, .inr ⟨by decide, sS, 0, 1, _, _, ?_, rfl, rep_arr_sub hr1.all.2.1.1 (Nat.le_refl _) fun j hj => ?_, by decide⟩⟩, hr1.keeps.toBelow⟩).1
    · refine ⟨by omega, ?_⟩
      obtain ⟨c_, hc_, _⟩ := hr1.all.2.1.1
      rw [hc_]
      rfl
    · match j, hj with
      | 0, _ => rfl
  by_cases h2 : c0 = 2
  · subst h2
    refine seg cfg27_ok mixed PanicFree.body 1000 [false, false, false, true, true] [] hr (by first | trivial | exact HpRep.nil | assumption) (by kernel_rfl) fun sS hsS => ?_
    simp (maxSteps := 10000000) [SX.vc, SX.stop, SX.contS, SX.contB, SX.contW, SX.contR, SX.contD, SX.sxStep, SX.stepPure, SX.stepNew, SX.stepStore, SX.stepKeep, SX.guardIx, SX.evOp, SX.opd, SX.opds, SX.optOpd, SX.look, SX.putS, SX.gobs, SX.AllP, SX.leave, SX.lookC, SX.lookB, SX.lookT, SX.lookN, SX.findK, SX.evBuiltin, SX.ints, SX.foldI, SX.evBin, SX.evInt, SX.evStr, SX.evEq, SX.arith, SX.evLoad, SX.shapeUp, SX.evFieldAddr, SX.evField, SX.evIndexAddr, SX.evIndex, SX.evFill, SX.evBuild, SX.szs, SX.cellsV, SX.evNew, SX.evStore, SX.spliceL, SX.SV.cells, SX.evConv, SX.evSlice, SX.bnd, SX.evNil, SX.evUn, SX.evPick, SX.pickOpd, SX.popTo, SX.cnd, SX.env0, SX.TD.isAgg, SX.TD.isIface, SX.tails, SX.NotAgg, SX.evLookup, SX.evConvH, SX.evPtrEq, SX.isCells, SX.thaw, SX.frz, SX.fixB, SX.rootIx, SX.Froz, SX.frzStep, SX.fork, Go.Value.cells, Go.undef, cfg27, Tryd.f27]
    refine ⟨by (unfold SX.Ob; first | trivial | omega | ((try simp only [SX.inK]); (try simp [SX.den, SX.IsU8, SX.AllP, *]); (try omega))), ?_⟩
    intro a1 w1 hr1 _
    refine post_retn (end1 hr1 rfl rfl ⟨⟨_, rfl, .inr ⟨by decide, sS, 0, 2, _, _, ?_, rfl, rep_arr_sub hr1.all.2.1.1 (Nat.le_refl _) fun j hj => ?_, by decide⟩⟩, hr1.keeps.toBelow⟩).1
    · refine ⟨by omega, ?_⟩
      obtain ⟨c_, hc_, _⟩ := hr1.all.2.1.1
      rw [hc_]
      rfl
    · match j, hj with
      | 0, _ => rfl
      | 1, _ => rfl
  by_cases h3 : c0 = 3
  · subst h3
    refine seg cfg27_ok mixed PanicFree.body 1000 [false, false, false, false, false, true, true] [] hr (by first | trivial | exact HpRep.nil | assumption) (by kernel_rfl) fun sS hsS => ?_
    simp (maxSteps := 10000000) [SX.vc, SX.stop, SX.contS, SX.contB, SX.contW, SX.contR, SX.contD, SX.sxStep, SX.stepPure, SX.stepNew, SX.stepStore, SX.stepKeep, SX.guardIx, SX.evOp, SX.opd, SX.opds, SX.optOpd, SX.look, SX.putS, SX.gobs, SX.AllP, SX.leave, SX.lookC, SX.lookB, SX.lookT, SX.lookN, SX.findK, SX.evBuiltin, SX.ints, SX.foldI, SX.evBin, SX.evInt, SX.evStr, SX.evEq, SX.arith, SX.evLoad, SX.shapeUp, SX.evFieldAddr, SX.evField, SX.evIndexAddr, SX.evIndex, SX.evFill, SX.evBuild, SX.szs, SX.cellsV, SX.evNew, SX.evStore, SX.spliceL, SX.SV.cells, SX.evConv, SX.evSlice, SX.bnd, SX.evNil, SX.evUn, SX.evPick, SX.pickOpd, SX.popTo, SX.cnd, SX.env0, SX.TD.isAgg, SX.TD.isIface, SX.tails, SX.NotAgg, SX.evLookup, SX.evConvH, SX.evPtrEq, SX.isCells, SX.thaw, SX.frz, SX.fixB, SX.rootIx, SX.Froz, SX.frzStep, SX.fork, Go.Value.cells, Go.undef, cfg27, Tryd.f27]
    refine ⟨by (unfold SX.Ob; first | trivial | omega | ((try simp only [SX.inK]); (try simp [SX.den, SX.IsU8, SX.AllP, *]); (try omega))), ?_⟩
    intro a1 w1 hr1 _
    refine post_retn (end1 hr1 rfl rfl ⟨⟨_, rfl, .inr ⟨by decide, sS, 0, 3, _, _, ?_, rfl, rep_arr_sub hr1.all.2.1.1 (Nat.le_refl _) fun j hj => ?_, by decide⟩⟩, hr1.keeps.toBelow⟩).1
    · refine ⟨by omega, ?_⟩
      obtain ⟨c_, hc_, _⟩ := hr1.all.2.1.1
      rw [hc_]
      rfl
    · match j, hj with
      | 0, _ => rfl
      | 1, _ => rfl
      | 2, _ => rfl
  by_cases h4 : c0 = 4
  · subst h4
    refine seg cfg27_ok mixed PanicFree.body 1000 [false, false, false, false, false, false, false, false, true] [] hr (by first | trivial | exact HpRep.nil | assumption) (by kernel_rfl) fun sS hsS => ?_
    simp (maxSteps := 10000000) [SX.vc, SX.stop, SX.contS, SX.contB, SX.contW, SX.contR, SX.contD, SX.sxStep, SX.stepPure, SX.stepNew, SX.stepStore, SX.stepKeep, SX.guardIx, SX.evOp, SX.opd, SX.opds, SX.optOpd, SX.look, SX.putS, SX.gobs, SX.AllP, SX.leave, SX.lookC, SX.lookB, SX.lookT, SX.lookN, SX.findK, SX.evBuiltin, SX.ints, SX.foldI, SX.evBin, SX.evInt, SX.evStr, SX.evEq, SX.arith, SX.evLoad, SX.shapeUp, SX.evFieldAddr, SX.evField, SX.evIndexAddr, SX.evIndex, SX.evFill, SX.evBuild, SX.szs, SX.cellsV, SX.evNew, SX.evStore, SX.spliceL, SX.SV.cells, SX.evConv, SX.evSlice, SX.bnd, SX.evNil, SX.evUn, SX.evPick, SX.pickOpd, SX.popTo, SX.cnd, SX.env0, SX.TD.isAgg, SX.TD.isIface, SX.tails, SX.NotAgg, SX.evLookup, SX.evConvH, SX.evPtrEq, SX.isCells, SX.thaw, SX.frz, SX.fixB, SX.rootIx, SX.Froz, SX.frzStep, SX.fork, Go.Value.cells, Go.undef, cfg27, Tryd.f27]
    refine ⟨by (unfold SX.Ob; first | trivial | omega | ((try simp only [SX.inK]); (try simp [SX.den, SX.IsU8, SX.AllP, *]); (try omega))), ?_⟩
    intro a1 w1 hr1 _
    refine post_retn (end1 hr1 rfl rfl ⟨⟨_, rfl, .inr ⟨by decide, sS, 0, 4, _, _, ?_, rfl, rep_arr_sub hr1.all.2.1.1 (Nat.le_refl _) fun j hj => ?_, by decide⟩⟩, hr1.keeps.toBelow⟩).1
    · refine ⟨by omega, ?_⟩
      obtain ⟨c_, hc_, _⟩ := hr1.all.2.1.1
      rw [hc_]
      rfl
    · match j, hj with
      | 0, _ => rfl
      | 1, _ => rfl
      | 2, _ => rfl
      | 3, _ => rfl
  by_cases h5 : c0 = 5
  · subst h5
    refine seg cfg27_ok mixed PanicFree.body 1000 [false, false, false, false, false, false, true, true] [] hr (by first | trivial | exact HpRep.nil | assumption) (by kernel_rfl) fun sS hsS => ?_
    simp (maxSteps := 10000000) [SX.vc, SX.stop, SX.contS, SX.contB, SX.contW, SX.contR, SX.contD, SX.sxStep, SX.stepPure, SX.stepNew, SX.stepStore, SX.stepKeep, SX.guardIx, SX.evOp, SX.opd, SX.opds, SX.optOpd, SX.look, SX.putS, SX.gobs, SX.AllP, SX.leave, SX.lookC, SX.lookB, SX.lookT, SX.lookN, SX.findK, SX.evBuiltin, SX.ints, SX.foldI, SX.evBin, SX.evInt, SX.evStr, SX.evEq, SX.arith, SX.evLoad, SX.shapeUp, SX.evFieldAddr, SX.evField, SX.evIndexAddr, SX.evIndex, SX.evFill, SX.evBuild, SX.szs, SX.cellsV, SX.evNew, SX.evStore, SX.spliceL, SX.SV.cells, SX.evConv, SX.evSlice, SX.bnd, SX.evNil, SX.evUn, SX.evPick, SX.pickOpd, SX.popTo, SX.cnd, SX.env0, SX.TD.isAgg, SX.TD.isIface, SX.tails, SX.NotAgg, SX.evLookup, SX.evConvH, SX.evPtrEq, SX.isCells, SX.thaw, SX.frz, SX.fixB, SX.rootIx, SX.Froz, SX.frzStep, SX.fork, Go.Value.cells, Go.undef, cfg27, Tryd.f27]
    refine ⟨by (unfold SX.Ob; first | trivial | omega | ((try simp only [SX.inK]); (try simp [SX.den, SX.IsU8, SX.AllP, *]); (try omega))), ?_⟩
    intro a1 w1 hr1 _
    refine post_retn (end1 hr1 rfl rfl ⟨⟨_, rfl, .inr ⟨by decide, sS, 0, 3, _, _, ?_, rfl, rep_arr_sub hr1.all.2.1.1 (Nat.le_refl _) fun j hj => ?_, by decide⟩⟩, hr1.keeps.toBelow⟩).1
    · refine ⟨by omega, ?_⟩
      obtain ⟨c_, hc_, _⟩ := hr1.all.2.1.1
      rw [hc_]
      rfl
    · match j, hj with
      | 0, _ => rfl
      | 1, _ => rfl
      | 2, _ => rfl
  by_cases h6 : c0 = 6
  · subst h6
    refine seg cfg27_ok mixed PanicFree.body 1000 [false, false, false, false, false, false, false, true] [] hr (by first | trivial | exact HpRep.nil | assumption) (by kernel_rfl) fun sS hsS => ?_
    simp (maxSteps := 10000000) [SX.vc, SX.stop, SX.contS, SX.contB, SX.contW, SX.contR, SX.contD, SX.sxStep, SX.stepPure, SX.stepNew, SX.stepStore, SX.stepKeep, SX.guardIx, SX.evOp, SX.opd, SX.opds, SX.optOpd, SX.look, SX.putS, SX.gobs, SX.AllP, SX.leave, SX.lookC, SX.lookB, SX.lookT, SX.lookN, SX.findK, SX.evBuiltin, SX.ints, SX.foldI, SX.evBin, SX.evInt, SX.evStr, SX.evEq, SX.arith, SX.evLoad, SX.shapeUp, SX.evFieldAddr, SX.evField, SX.evIndexAddr, SX.evIndex, SX.evFill, SX.evBuild, SX.szs, SX.cellsV, SX.evNew, SX.evStore, SX.spliceL, SX.SV.cells, SX.evConv, SX.evSlice, SX.bnd, SX.evNil, SX.evUn, SX.evPick, SX.pickOpd, SX.popTo, SX.cnd, SX.env0, SX.TD.isAgg, SX.TD.isIface, SX.tails, SX.NotAgg, SX.evLookup, SX.evConvH, SX.evPtrEq, SX.isCells, SX.thaw, SX.frz, SX.fixB, SX.rootIx, SX.Froz, SX.frzStep, SX.fork, Go.Value.cells, Go.undef, cfg27, Tryd.f27]
    refine ⟨by (unfold SX.Ob; first | trivial | omega | ((try simp only [SX.inK]); (try simp [SX.den, SX.IsU8, SX.AllP, *]); (try omega))), ?_⟩
    intro a1 w1 hr1 _
    refine post_retn (end1 hr1 rfl rfl ⟨⟨_, rfl, .inr ⟨by decide, sS, 0, 3, _, _, ?_, rfl, rep_arr_sub hr1.all.2.1.1 (Nat.le_refl _) fun j hj => ?_, by decide⟩⟩, hr1.keeps.toBelow⟩).1
    · refine ⟨by omega, ?_⟩
      obtain ⟨c_, hc_, _⟩ := hr1.all.2.1.1
      rw [hc_]
      rfl
    · match j, hj with
      | 0, _ => rfl
      | 1, _ => rfl
      | 2, _ => rfl
  by_cases h7 : c0 = 7
  · subst h7
    refine seg cfg27_ok mixed PanicFree.body 1000 [false, true, true] [] hr (by first | trivial | exact HpRep.nil | assumption) (by kernel_rfl) fun sS hsS => ?_
    simp (maxSteps := 10000000) [SX.vc, SX.stop, SX.contS, SX.contB, SX.contW, SX.contR, SX.contD, SX.sxStep, SX.stepPure, SX.stepNew, SX.stepStore, SX.stepKeep, SX.guardIx, SX.evOp, SX.opd, SX.opds, SX.optOpd, SX.look, SX.putS, SX.gobs, SX.AllP, SX.leave, SX.lookC, SX.lookB, SX.lookT, SX.lookN, SX.findK, SX.evBuiltin, SX.ints, SX.foldI, SX.evBin, SX.evInt, SX.evStr, SX.evEq, SX.arith, SX.evLoad, SX.shapeUp, SX.evFieldAddr, SX.evField, SX.evIndexAddr, SX.evIndex, SX.evFill, SX.evBuild, SX.szs, SX.cellsV, SX.evNew, SX.evStore, SX.spliceL, SX.SV.cells, SX.evConv, SX.evSlice, SX.bnd, SX.evNil, SX.evUn, SX.evPick, SX.pickOpd, SX.popTo, SX.cnd, SX.env0, SX.TD.isAgg, SX.TD.isIface, SX.tails, SX.NotAgg, SX.evLookup, SX.evConvH, SX.evPtrEq, SX.isCells, SX.thaw, SX.frz, SX.fixB, SX.rootIx, SX.Froz, SX.frzStep, SX.fork, Go.Value.cells, Go.undef, cfg27, Tryd.f27]
    refine ⟨by (unfold SX.Ob; first | trivial | omega | ((try simp only [SX.inK]); (try simp [SX.den, SX.IsU8, SX.AllP, *]); (try omega))), ?_⟩
    intro a1 w1 hr1 _
    refine post_retn (end1 hr1 rfl rfl ⟨⟨_, rfl, .inr ⟨by decide, sS, 0, 1, _, _, ?_, rfl, rep_arr_sub hr1.all.2.1.1 (Nat.le_refl _) fun j hj => ?_, by decide⟩⟩, hr1.keeps.toBelow⟩).1
    · refine ⟨by omega, ?_⟩
      obtain ⟨c_, hc_, _⟩ := hr1.all.2.1.1
      rw [hc_]
      rfl
    · match j, hj with
      | 0, _ => rfl
  by_cases h8 : c0 = 8
  · subst h8
    refine seg cfg27_ok mixed PanicFree.body 1000 [false, false, false, false, false, false, false, false, false, true] [] hr (by first | trivial | exact HpRep.nil | assumption) (by kernel_rfl) fun sS hsS => ?_
    simp (maxSteps := 10000000) [SX.vc, SX.stop, SX.contS, SX.contB, SX.contW, SX.contR, SX.contD, SX.sxStep, SX.stepPure, SX.stepNew, SX.stepStore, SX.stepKeep, SX.guardIx, SX.evOp, SX.opd, SX.opds, SX.optOpd, SX.look, SX.putS, SX.gobs, SX.AllP, SX.leave, SX.lookC, SX.lookB, SX.lookT, SX.lookN, SX.findK, SX.evBuiltin, SX.ints, SX.foldI, SX.evBin, SX.evInt, SX.evStr, SX.evEq, SX.arith, SX.evLoad, SX.shapeUp, SX.evFieldAddr, SX.evField, SX.evIndexAddr, SX.evIndex, SX.evFill, SX.evBuild, SX.szs, SX.cellsV, SX.evNew, SX.evStore, SX.spliceL, SX.SV.cells, SX.evConv, SX.evSlice, SX.bnd, SX.evNil, SX.evUn, SX.evPick, SX.pickOpd, SX.popTo, SX.cnd, SX.env0, SX.TD.isAgg, SX.TD.isIface, SX.tails, SX.NotAgg, SX.evLookup, SX.evConvH, SX.evPtrEq, SX.isCells, SX.thaw, SX.frz, SX.fixB, SX.rootIx, SX.Froz, SX.frzStep, SX.fork, Go.Value.cells, Go.undef, cfg27, Tryd.f27]
    refine ⟨by (unfold SX.Ob; first | trivial | omega | ((try simp only [SX.inK]); (try simp [SX.den, SX.IsU8, SX.AllP, *]); (try omega))), ?_⟩
    intro a1 w1 hr1 _
    refine post_retn (end1 hr1 rfl rfl ⟨⟨_, rfl, .inr ⟨by decide, sS, 0, 5, _, _, ?_, rfl, rep_arr_sub hr1.all.2.1.1 (Nat.le_refl _) fun j hj => ?_, by decide⟩⟩, hr1.keeps.toBelow⟩).1
    · refine ⟨by omega, ?_⟩
      obtain ⟨c_, hc_, _⟩ := hr1.all.2.1.1
      rw [hc_]
      rfl
    · match j, hj with
      | 0, _ => rfl
      | 1, _ => rfl
      | 2, _ => rfl
      | 3, _ => rfl
      | 4, _ => rfl
  by_cases h9 : c0 = 9
  · subst h9
    refine seg cfg27_ok mixed PanicFree.body 1000 [false, false, false, false, false, false, false, false, false, false, true] [] hr (by first | trivial | exact HpRep.nil | assumption) (by kernel_rfl) fun sS hsS => ?_
    simp (maxSteps := 10000000) [SX.vc, SX.stop, SX.contS, SX.contB, SX.contW, SX.contR, SX.contD, SX.sxStep, SX.stepPure, SX.stepNew, SX.stepStore, SX.stepKeep, SX.guardIx, SX.evOp, SX.opd, SX.opds, SX.optOpd, SX.look, SX.putS, SX.gobs, SX.AllP, SX.leave, SX.lookC, SX.lookB, SX.lookT, SX.lookN, SX.findK, SX.evBuiltin, SX.ints, SX.foldI, SX.evBin, SX.evInt, SX.evStr, SX.evEq, SX.arith, SX.evLoad, SX.shapeUp, SX.evFieldAddr, SX.evField, SX.evIndexAddr, SX.evIndex, SX.evFill, SX.evBuild, SX.szs, SX.cellsV, SX.evNew, SX.evStore, SX.spliceL, SX.SV.cells, SX.evConv, SX.evSlice, SX.bnd, SX.evNil, SX.evUn, SX.evPick, SX.pickOpd, SX.popTo, SX.cnd, SX.env0, SX.TD.isAgg, SX.TD.isIface, SX.tails, SX.NotAgg, SX.evLookup, SX.evConvH, SX.evPtrEq, SX.isCells, SX.thaw, SX.frz, SX.fixB, SX.rootIx, SX.Froz, SX.frzStep, SX.fork, Go.Value.cells, Go.undef, cfg27, Tryd.f27]
    refine ⟨by (unfold SX.Ob; first | trivial | omega | ((try simp only [SX.inK]); (try simp [SX.den, SX.IsU8, SX.AllP, *]); (try omega))), ?_⟩
    intro a1 w1 hr1 _
    refine post_retn (end1 hr1 rfl rfl ⟨⟨_, rfl, .inr ⟨by decide, sS, 0, 1, _, _, ?_, rfl, rep_arr_sub hr1.all.2.1.1 (Nat.le_refl _) fun j hj => ?_, by decide⟩⟩, hr1.keeps.toBelow⟩).1
    · refine ⟨by omega, ?_⟩
      obtain ⟨c_, hc_, _⟩ := hr1.all.2.1.1
      rw [hc_]
      rfl
    · match j, hj with
      | 0, _ => rfl
  by_cases h10 : c0 = 10
  · subst h10
    refine seg cfg27_ok mixed PanicFree.body 1000 [false, false, true] [] hr (by first | trivial | exact HpRep.nil | assumption) (by kernel_rfl) fun sS hsS => ?_
    simp (maxSteps := 10000000) [SX.vc, SX.stop, SX.contS, SX.contB, SX.contW, SX.contR, SX.contD, SX.sxStep, SX.stepPure, SX.stepNew, SX.stepStore, SX.stepKeep, SX.guardIx, SX.evOp, SX.opd, SX.opds, SX.optOpd, SX.look, SX.putS, SX.gobs, SX.AllP, SX.leave, SX.lookC, SX.lookB, SX.lookT, SX.lookN, SX.findK, SX.evBuiltin, SX.ints, SX.foldI, SX.evBin, SX.evInt, SX.evStr, SX.evEq, SX.arith, SX.evLoad, SX.shapeUp, SX.evFieldAddr, SX.evField, SX.evIndexAddr, SX.evIndex, SX.evFill, SX.evBuild, SX.szs, SX.cellsV, SX.evNew, SX.evStore, SX.spliceL, SX.SV.cells, SX.evConv, SX.evSlice, SX.bnd, SX.evNil, SX.evUn, SX.evPick, SX.pickOpd, SX.popTo, SX.cnd, SX.env0, SX.TD.isAgg, SX.TD.isIface, SX.tails, SX.NotAgg, SX.evLookup, SX.evConvH, SX.evPtrEq, SX.isCells, SX.thaw, SX.frz, SX.fixB, SX.rootIx, SX.Froz, SX.frzStep, SX.fork, Go.Value.cells, Go.undef, cfg27, Tryd.f27]
    refine ⟨by (unfold SX.Ob; first | trivial | omega | ((try simp only [SX.inK]); (try simp [SX.den, SX.IsU8, SX.AllP, *]); (try omega))), ?_⟩
    intro a1 w1 hr1 _
    refine post_retn (end1 hr1 rfl rfl ⟨⟨_, rfl, .inr ⟨by decide, sS, 0, 1, _, _, ?_, rfl, rep_arr_sub hr1.all.2.1.1 (Nat.le_refl _) fun j hj => ?_, by decide⟩⟩, hr1.keeps.toBelow⟩).1
    · refine ⟨by omega, ?_⟩
      obtain ⟨c_, hc_, _⟩ := hr1.all.2.1.1
      rw [hc_]
      rfl
    · match j, hj with
      | 0, _ => rfl
  by_cases h11 : c0 = 11
  · subst h11
    refine seg cfg27_ok mixed PanicFree.body 1000 [false, false, false, false, true] [] hr (by first | trivial | exact HpRep.nil | assumption) (by kernel_rfl) fun sS hsS => ?_
    simp (maxSteps := 10000000) [SX.vc, SX.stop, SX.contS, SX.contB, SX.contW, SX.contR, SX.contD, SX.sxStep, SX.stepPure, SX.stepNew, SX.stepStore, SX.stepKeep, SX.guardIx, SX.evOp, SX.opd, SX.opds, SX.optOpd, SX.look, SX.putS, SX.gobs, SX.AllP, SX.leave, SX.lookC, SX.lookB, SX.lookT, SX.lookN, SX.findK, SX.evBuiltin, SX.ints, SX.foldI, SX.evBin, SX.evInt, SX.evStr, SX.evEq, SX.arith, SX.evLoad, SX.shapeUp, SX.evFieldAddr, SX.evField, SX.evIndexAddr, SX.evIndex, SX.evFill, SX.evBuild, SX.szs, SX.cellsV, SX.evNew, SX.evStore, SX.spliceL, SX.SV.cells, SX.evConv, SX.evSlice, SX.bnd, SX.evNil, SX.evUn, SX.evPick, SX.pickOpd, SX.popTo, SX.cnd, SX.env0, SX.TD.isAgg, SX.TD.isIface, SX.tails, SX.NotAgg, SX.evLookup, SX.evConvH, SX.evPtrEq, SX.isCells, SX.thaw, SX.frz, SX.fixB, SX.rootIx, SX.Froz, SX.frzStep, SX.fork, Go.Value.cells, Go.undef, cfg27, Tryd.f27]
    refine ⟨by (unfold SX.Ob; first | trivial | omega | ((try simp only [SX.inK]); (try simp [SX.den, SX.IsU8, SX.AllP, *]); (try omega))), ?_⟩
    intro a1 w1 hr1 _
    refine post_retn (end1 hr1 rfl rfl ⟨⟨_, rfl, .inr ⟨by decide, sS, 0, 2, _, _, ?_, rfl, rep_arr_sub hr1.all.2.1.1 (Nat.le_refl _) fun j hj => ?_, by decide⟩⟩, hr1.keeps.toBelow⟩).1
    · refine ⟨by omega, ?_⟩
      obtain ⟨c_, hc_, _⟩ := hr1.all.2.1.1
      rw [hc_]
      rfl
    · match j, hj with
      | 0, _ => rfl
      | 1, _ => rfl
  refine seg cfg27_ok mixed PanicFree.body 1000 [false, false, false, false, false, false, false, false, false, false, false] [] hr (by first | trivial | exact HpRep.nil | assumption) (by kernel_rfl) fun sS hsS => ?_
  simp (maxSteps := 10000000) [SX.vc, SX.stop, SX.contS, SX.contB, SX.contW, SX.contR, SX.contD, SX.sxStep, SX.stepPure, SX.stepNew, SX.stepStore, SX.stepKeep, SX.guardIx, SX.evOp, SX.opd, SX.opds, SX.optOpd, SX.look, SX.putS, SX.gobs, SX.AllP, SX.leave, SX.lookC, SX.lookB, SX.lookT, SX.lookN, SX.findK, SX.evBuiltin, SX.ints, SX.foldI, SX.evBin, SX.evInt, SX.evStr, SX.evEq, SX.arith, SX.evLoad, SX.shapeUp, SX.evFieldAddr, SX.evField, SX.evIndexAddr, SX.evIndex, SX.evFill, SX.evBuild, SX.szs, SX.cellsV, SX.evNew, SX.evStore, SX.spliceL, SX.SV.cells, SX.evConv, SX.evSlice, SX.bnd, SX.evNil, SX.evUn, SX.evPick, SX.pickOpd, SX.popTo, SX.cnd, SX.env0, SX.TD.isAgg, SX.TD.isIface, SX.tails, SX.NotAgg, SX.evLookup, SX.evConvH, SX.evPtrEq, SX.isCells, SX.thaw, SX.frz, SX.fixB, SX.rootIx, SX.Froz, SX.frzStep, SX.fork, Go.Value.cells, Go.undef, cfg27, Tryd.f27, h1, h2, h3, h4, h5, h6, h7, h8, h9, h10, h11]
  refine ⟨by (unfold SX.Ob; first | trivial | omega | ((try simp only [SX.inK]); (try simp [SX.den, SX.IsU8, SX.AllP, *]); (try omega))), ?_⟩
  intro a1 w1 hr1 _
  refine post_retn (end1 hr1 rfl rfl ⟨⟨_, rfl, .inl ⟨?_, _, _, rfl⟩⟩, hr1.keeps.toBelow⟩).1
  simp [flds, h1, h2, h3, h4, h5, h6, h7, h8, h9, h10, h11]

set_option maxRecDepth 100000 in
set_option maxHeartbeats 16000000 in
/-- fields of an act within a step. -/
theorem fields2_ok (w : World) (ba bb : Nat) (d0 d1 c0 c1 c2 c3 c4 c5 c6 : Int) (h : w.heap[ba]? = some (.cells (denL [.v (.int .i64 d0), .v (.int .i64 d1), .v (.int .i64 c0), .v (.int .i64 c1), .v (.int .i64 c2), .v (.int .i64 c3), .v (.int .i64 c4), .v (.int .u8 c5), .v (.int .i64 c6)]).toArray 39 (0, 0))) : Calls Tryd.prog 27 (denL [.ptr 0 ba 2, .v (.pointer (some ⟨bb, 0, none⟩))]).toArray w fun e w' => (∃ v, e = .returned v ∧ RdS (pRow ba 2 bb) 1 0 (fun y => w.heap.size ≤ y ∧ isB5 w'.heap[y]? = false) w' v (flds c0)) ∧ Below w.heap.size w w' := by
  refine enter (F := frame0 w) Tryd.func27 rfl [.ptr 0 ba 2, .v (.pointer (some ⟨bb, 0, none⟩))] [(ba, false, .cells [.v (.int .i64 d0), .v (.int .i64 d1), .v (.int .i64 c0), .v (.int .i64 c1), .v (.int .i64 c2), .v (.int .i64 c3), .v (.int .i64 c4), .v (.int .u8 c5), .v (.int .i64 c6)] 39)] (by simp [Tryd.f27]) ⟨⟨h, by simp, by simp⟩, trivial⟩ (keeps0 w) fun a hr => ?_
  by_cases h1 : c0 = 1
  · subst h1
    refine seg cfg27_ok mixed PanicFree.body 1000 [true, true] [] hr (by first | trivial | exact HpRep.nil | assumption) (by kernel_rfl) fun sS hsS => ?_
    simp (maxSteps := 10000000) [SX.vc, SX.stop, SX.contS, SX.contB, SX.contW, SX.contR, SX.contD, SX.sxStep, SX.stepPure, SX.stepNew, SX.stepStore, SX.stepKeep, SX.guardIx, SX.evOp, SX.opd, SX.opds, SX.optOpd, SX.look, SX.putS, SX.gobs, SX.AllP, SX.leave, SX.lookC, SX.lookB, SX.lookT, SX.lookN, SX.findK, SX.evBuiltin, SX.ints, SX.foldI, SX.evBin, SX.evInt, SX.evStr, SX.evEq, SX.arith, SX.evLoad, SX.shapeUp, SX.evFieldAddr, SX.evField, SX.evIndexAddr, SX.evIndex, SX.evFill, SX.evBuild, SX.szs, SX.cellsV, SX.evNew, SX.evStore, SX.spliceL, SX.SV.cells, SX.evConv, SX.evSlice, SX.bnd, SX.evNil, SX.evUn, SX.evPick, SX.pickOpd, SX.popTo, SX.cnd, SX.env0, SX.TD.isAgg, SX.TD.isIface, SX.tails, SX.NotAgg, SX.evLookup, SX.evConvH, SX.evPtrEq, SX.isCells, SX.thaw, SX.frz, SX.fixB, SX.rootIx, SX.Froz, SX.frzStep, SX.fork, Go.Value.cells, Go.undef, cfg27, Tryd.f27]
    refine ⟨by (unfold SX.Ob; first | trivial | omega | ((try simp only [SX.inK]); (try simp [SX.den, SX.IsU8, SX.AllP, *]); (try omega))), ?_⟩
    intro a1 w1 hr1 _
    refine post_retn (end1 hr1 rfl rfl ⟨⟨_, rfl, .inr ⟨by decide, sS, 0, 1, _, _, ?_, rfl, rep_arr_sub hr1.all.2.1.1 (Nat.le_refl _) fun j hj => ?_, by decide⟩⟩, hr1.keeps.toBelow⟩).1
    · refine ⟨by omega, ?_⟩
      obtain ⟨c_, hc_, _⟩ := hr1.all.2.1.1
      rw [hc_]
      rfl
    · match j, hj with
      | 0, _ => rfl
  by_cases h2 : c0 = 2
  · subst h2
    refine seg cfg27_ok mixed PanicFree.body 1000 [false, false, false, true, true] [] hr (by first | trivial | exact HpRep.nil | assumption) (by kernel_rfl) fun sS hsS => ?_
    simp (maxSteps := 10000000) [SX.vc, SX.stop, SX.contS, SX.contB, SX.contW, SX.contR, SX.contD, SX.sxStep, SX.stepPure, SX.stepNew, SX.stepStore, SX.stepKeep, SX.guardIx, SX.evOp, SX.opd, SX.opds, SX.optOpd, SX.look, SX.putS, SX.gobs, SX.AllP, SX.leave, SX.lookC, SX.lookB, SX.lookT, SX.lookN, SX.findK, SX.evBuiltin, SX.ints, SX.foldI, SX.evBin, SX.evInt, SX.evStr, SX.evEq, SX.arith, SX.evLoad, SX.shapeUp, SX.evFieldAddr, SX.evField, SX.evIndexAddr, SX.evIndex, SX.evFill, SX.evBuild, SX.szs, SX.cellsV, SX.evNew, SX.evStore, SX.spliceL, SX.SV.cells, SX.evConv, SX.evSlice, SX.bnd, SX.evNil, SX.evUn, SX.evPick, SX.pickOpd, SX.popTo, SX.cnd, SX.env0, SX.TD.isAgg, SX.TD.isIface, SX.tails, SX.NotAgg, SX.evLookup, SX.evConvH, SX.evPtrEq, SX.isCells, SX.thaw, SX.frz, SX.fixB, SX.rootIx, SX.Froz, SX.frzStep, SX.fork, Go.Value.cells, Go.undef, cfg27, Tryd.f27]
    refine ⟨by (unfold SX.Ob; first | trivial | omega | ((try simp only [SX.inK]); (try simp [SX.den, SX.IsU8, SX.AllP, *]); (try omega))), ?_⟩
    intro a1 w1 hr1 _
    refine post_retn (end1 hr1 rfl rfl ⟨⟨_, rfl, .inr ⟨by decide, sS, 0, 2, _, _, ?_, rfl, rep_arr_sub hr1.all.2.1.1 (Nat.le_refl _) fun j hj => ?_, by decide⟩⟩, hr1.keeps.toBelow⟩).1
    · refine ⟨by omega, ?_⟩
      obtain ⟨c_, hc_, _⟩ := hr1.all.2.1.1
      rw [hc_]
      rfl
    · match j, hj with
      | 0, _ => rfl
      | 1, _ => rfl
  by_cases h3 : c0 = 3
  · subst h3
    refine seg cfg27_ok mixed PanicFree.body 1000 [false, false, false, false, false, true, true] [] hr (by first | trivial | exact HpRep.nil | assumption) (by kernel_rfl) fun sS hsS => ?_
    simp (maxSteps := 10000000) [SX.vc, SX.stop, SX.contS, SX.contB, SX.contW, SX.contR, SX.contD, SX.sxStep, SX.stepPure, SX.stepNew, SX.stepStore, SX.stepKeep, SX.guardIx, SX.evOp, SX.opd, SX.opds, SX.optOpd, SX.look, SX.putS, SX.gobs, SX.AllP, SX.leave, SX.lookC, SX.lookB, SX.lookT, SX.lookN, SX.findK, SX.evBuiltin, SX.ints, SX.foldI, SX.evBin, SX.evInt, SX.evStr, SX.evEq, SX.arith, SX.evLoad, SX.shapeUp, SX.evFieldAddr, SX.evField, SX.evIndexAddr, SX.evIndex, SX.evFill, SX.evBuild, SX.szs, SX.cellsV, SX.evNew, SX.evStore, SX.spliceL, SX.SV.cells, SX.evConv, SX.evSlice, SX.bnd, SX.evNil, SX.evUn, SX.evPick, SX.pickOpd, SX.popTo, SX.cnd, SX.env0, SX.TD.isAgg, SX.TD.isIface, SX.tails, SX.NotAgg, SX.evLookup, SX.evConvH, SX.evPtrEq, SX.isCells, SX.thaw, SX.frz, SX.fixB, SX.rootIx, SX.Froz, SX.frzStep, SX.fork, Go.Value.cells, Go.undef, cfg27, Tryd.f27]
    refine ⟨by (unfold SX.Ob; first | trivial | omega | ((try simp only [SX.inK]); (try simp [SX.den, SX.IsU8, SX.AllP, *]); (try omega))), ?_⟩
    intro a1 w1 hr1 _
    refine post_retn (end1 hr1 rfl rfl ⟨⟨_, rfl, .inr ⟨by decide, sS, 0, 3, _, _, ?_, rfl, rep_arr_sub hr1.all.2.1.1 (Nat.le_refl _) fun j hj => ?_, by decide⟩⟩, hr1.keeps.toBelow⟩).1
    · refine ⟨by omega, ?_⟩
      obtain ⟨c_, hc_, _⟩ := hr1.all.2.1.1
      rw [hc_]
      rfl
    · match j, hj with
      | 0, _ => rfl
      | 1, _ => rfl
      | 2, _ => rfl
  by_cases h4 : c0 = 4
  · subst h4
    refine seg cfg27_ok mixed PanicFree.body 1000 [false, false, false, false, false, false, false, false, true] [] hr (by first | trivial | exact HpRep.nil | assumption) (by kernel_rfl) fun sS hsS => ?_
    simp (maxSteps := 10000000) [SX.vc, SX.stop, SX.contS, SX.contB, SX.contW, SX.contR, SX.contD, SX.sxStep, SX.stepPure, SX.stepNew, SX.stepStore, SX.stepKeep, SX.guardIx, SX.evOp, SX.opd, SX.opds, SX.optOpd, SX.look, SX.putS, SX.gobs, SX.AllP, SX.leave, SX.lookC, SX.lookB, SX.lookT, SX.lookN, SX.findK, SX.evBuiltin, SX.ints, SX.foldI, SX.evBin, SX.evInt, SX.evStr, SX.evEq, SX.arith, SX.evLoad, SX.shapeUp, SX.evFieldAddr, SX.evField, SX.evIndexAddr, SX.evIndex, SX.evFill, SX.evBuild, SX.szs, SX.cellsV, SX.evNew, SX.evStore, SX.spliceL, SX.SV.cells, SX.evConv, SX.evSlice, SX.bnd, SX.evNil, SX.evUn, SX.evPick, SX.pickOpd, SX.popTo, SX.cnd, SX.env0, SX.TD.isAgg, SX.TD.isIface, SX.tails, SX.NotAgg, SX.evLookup, SX.evConvH, SX.evPtrEq, SX.isCells, SX.thaw, SX.frz, SX.fixB, SX.rootIx, SX.Froz, SX.frzStep, SX.fork, Go.Value.cells, Go.undef, cfg27, Tryd.f27]
    refine ⟨by (unfold SX.Ob; first | trivial | omega | ((try simp only [SX.inK]); (try simp [SX.den, SX.IsU8, SX.AllP, *]); (try omega))), ?_⟩
    intro a1 w1 hr1 _
    refine post_retn (end1 hr1 rfl rfl ⟨⟨_, rfl, .inr ⟨by decide, sS, 0, 4, _, _, ?_, rfl, rep_arr_sub hr1.all.2.1.1 (Nat.le_refl _) fun j hj => ?_, by decide⟩⟩, hr1.keeps.toBelow⟩).1
    · refine ⟨by omega, ?_⟩
      obtain ⟨c_, hc_, _⟩ := hr1.all.2.1.1
      rw [hc_]
      rfl
    · match j, hj with
      | 0, _ => rfl
      | 1, _ => rfl
      | 2, _ => rfl
      | 3, _ => rfl
  by_cases h5 : c0 = 5
  · subst h5
    refine seg cfg27_ok mixed PanicFree.body 1000 [false, false, false, false, false, false, true, true] [] hr (by first | trivial | exact HpRep.nil | assumption) (by kernel_rfl) fun sS hsS => ?_
    simp (maxSteps := 10000000) [SX.vc, SX.stop, SX.contS, SX.contB, SX.contW, SX.contR, SX.contD, SX.sxStep, SX.stepPure, SX.stepNew, SX.stepStore, SX.stepKeep, SX.guardIx, SX.evOp, SX.opd, SX.opds, SX.optOpd, SX.look, SX.putS, SX.gobs, SX.AllP, SX.leave, SX.lookC, SX.lookB, SX.lookT, SX.lookN, SX.findK, SX.evBuiltin, SX.ints, SX.foldI, SX.evBin, SX.evInt, SX.evStr, SX.evEq, SX.arith, SX.evLoad, SX.shapeUp, SX.evFieldAddr, SX.evField, SX.evIndexAddr, SX.evIndex, SX.evFill, SX.evBuild, SX.szs, SX.cellsV, SX.evNew, SX.evStore, SX.spliceL, SX.SV.cells, SX.evConv, SX.evSlice, SX.bnd, SX.evNil, SX.evUn, SX.evPick, SX.pickOpd, SX.popTo, SX.cnd, SX.env0, SX.TD.isAgg, SX.TD.isIface, SX.tails, SX.NotAgg, SX.evLookup, SX.evConvH, SX.evPtrEq, SX.isCells, SX.thaw, SX.frz, SX.fixB, SX.rootIx, SX.Froz, SX.frzStep, SX.fork, Go.Value.cells, Go.undef, cfg27, Tryd.f27]
    refine ⟨by (unfold SX.Ob; first | trivial | omega | ((try simp only [SX.inK]); (try simp [SX.den, SX.IsU8, SX.AllP, *]); (try omega))), ?_⟩
    intro a1 w1 hr1 _
    refine post_retn (end1 hr1 rfl rfl ⟨⟨_, rfl, .inr ⟨by decide, sS, 0, 3, _, _, ?_, rfl, rep_arr_sub hr1.all.2.1.1 (Nat.le_refl _) fun j hj => ?_, by decide⟩⟩, hr1.keeps.toBelow⟩).1
    · refine ⟨by omega, ?_⟩
      obtain ⟨c_, hc_, _⟩ := hr1.all.2.1.1
      rw [hc_]
      rfl
    · match j, hj with
      | 0, _ => rfl
      | 1, _ => rfl
      | 2, _ => rfl
  by_cases h6 : c0 = 6
  · subst h6
    refine seg cfg27_ok mixed PanicFree.body 1000 [false, false, false, false, false, false, false, true] [] hr (by first | trivial | exact HpRep.nil | assumption) (by kernel_rfl) fun sS hsS => ?_
    simp (maxSteps := 10000000) [SX.vc, SX.stop, SX.contS, SX.contB, SX.contW, SX.contR, SX.contD, SX.sxStep, SX.stepPure, SX.stepNew, SX.stepStore, SX.stepKeep, SX.guardIx, SX.evOp, SX.opd, SX.opds, SX.optOpd, SX.look, SX.putS, SX.gobs, SX.AllP, SX.leave, SX.lookC, SX.lookB, SX.lookT, SX.lookN, SX.findK, SX.evBuiltin, SX.ints, SX.foldI, SX.evBin, SX.evInt, SX.evStr, SX.evEq, SX.arith, SX.evLoad, SX.shapeUp, SX.evFieldAddr, SX.evField, SX.evIndexAddr, SX.evIndex, SX.evFill, SX.evBuild, SX.szs, SX.cellsV, SX.evNew, SX.evStore, SX.spliceL, SX.SV.cells, SX.evConv, SX.evSlice, SX.bnd, SX.evNil, SX.evUn, SX.evPick, SX.pickOpd, SX.popTo, SX.cnd, SX.env0, SX.TD.isAgg, SX.TD.isIface, SX.tails, SX.NotAgg, SX.evLookup, SX.evConvH, SX.evPtrEq, SX.isCells, SX.thaw, SX.frz, SX.fixB, SX.rootIx, SX.Froz, SX.frzStep, SX.fork, Go.Value.cells, Go.undef, cfg27, Tryd.f27]
    refine ⟨by (unfold SX.Ob; first | trivial | omega | ((try simp only [SX.inK]); (try simp [SX.den, SX.IsU8, SX.AllP, *]); (try omega))), ?_⟩
    intro a1 w1 hr1 _
    refine post_retn (end1 hr1 rfl rfl ⟨⟨_, rfl, .inr ⟨by decide, sS, 0, 3, _, _, ?_, rfl, rep_arr_sub hr1.all.2.1.1 (Nat.le_refl _) fun j hj => ?_, by decide⟩⟩, hr1.keeps.toBelow⟩).1
    · refine ⟨by omega, ?_⟩
      obtain ⟨c_, hc_, _⟩ := hr1.all.2.1.1
      rw [hc_]
      rfl
    · match j, hj with
      | 0, _ => rfl
      | 1, _ => rfl
      | 2, _ => rfl
  by_cases h7 : c0 = 7
  · subst h7
    refine seg cfg27_ok mixed PanicFree.body 1000 [false, true, true] [] hr (by first | trivial | exact HpRep.nil | assumption) (by kernel_rfl) fun sS hsS => ?_
    simp (maxSteps := 10000000) [SX.vc, SX.stop, SX.contS, SX.contB, SX.contW, SX.contR, SX.contD, SX.sxStep, SX.stepPure, SX.stepNew, SX.stepStore, SX.stepKeep, SX.guardIx, SX.evOp, SX.opd, SX.opds, SX.optOpd, SX.look, SX.putS, SX.gobs, SX.AllP, SX.leave, SX.lookC, SX.lookB, SX.lookT, SX.lookN, SX.findK, SX.evBuiltin, SX.ints, SX.foldI, SX.evBin, SX.evInt, SX.evStr, SX.evEq, SX.arith, SX.evLoad, SX.shapeUp, SX.evFieldAddr, SX.evField, SX.evIndexAddr, SX.evIndex, SX.evFill, SX.evBuild, SX.szs, SX.cellsV, SX.evNew, SX.evStore, SX.spliceL, SX.SV.cells, SX.evConv, SX.evSlice, SX.bnd, SX.evNil, SX.evUn, SX.evPick, SX.pickOpd, SX.popTo, SX.cnd, SX.env0, SX.TD.isAgg, SX.TD.isIface, SX.tails, SX.NotAgg, SX.evLookup, SX.evConvH, SX.evPtrEq, SX.isCells, SX.thaw, SX.frz, SX.fixB, SX.rootIx, SX.Froz, SX.frzStep, SX.fork, Go.Value.cells, Go.undef, cfg27, Tryd.f27]
    refine ⟨by (unfold SX.Ob; first | trivial | omega | ((try simp only [SX.inK]); (try simp [SX.den, SX.IsU8, SX.AllP, *]); (try omega))), ?_⟩
    intro a1 w1 hr1 _
    refine post_retn (end1 hr1 rfl rfl ⟨⟨_, rfl, .inr ⟨by decide, sS, 0, 1, _, _, ?_, rfl, rep_arr_sub hr1.all.2.1.1 (Nat.le_refl _) fun j hj => ?_, by decide⟩⟩, hr1.keeps.toBelow⟩).1
    · refine ⟨by omega, ?_⟩
      obtain ⟨c_, hc_, _⟩ := hr1.all.2.1.1
      rw [hc_]
      rfl
    · match j, hj with
      | 0, _ => rfl
  by_cases h8 : c0 = 8
  · subst h8
    refine seg cfg27_ok mixed PanicFree.body 1000 [false, false, false, false, false, false, false, false, false, true] [] hr (by first | trivial | exact HpRep.nil | assumption) (by kernel_rfl) fun sS hsS => ?_
    simp (maxSteps := 10000000) [SX.vc, SX.stop, SX.contS, SX.contB, SX.contW, SX.contR, SX.contD, SX.sxStep, SX.stepPure, SX.stepNew, SX.stepStore, SX.stepKeep, SX.guardIx, SX.evOp, SX.opd, SX.opds, SX.optOpd, SX.look, SX.putS, SX.gobs, SX.AllP, SX.leave, SX.lookC, SX.lookB, SX.lookT, SX.lookN, SX.findK, SX.evBuiltin, SX.ints, SX.foldI, SX.evBin, SX.evInt, SX.evStr, SX.evEq, SX.arith, SX.evLoad, SX.shapeUp, SX.evFieldAddr, SX.evField, SX.evIndexAddr, SX.evIndex, SX.evFill, SX.evBuild, SX.szs, SX.cellsV, SX.evNew, SX.evStore, SX.spliceL, SX.SV.cells, SX.evConv, SX.evSlice, SX.bnd, SX.evNil, SX.evUn, SX.evPick, SX.pickOpd, SX.popTo, SX.cnd, SX.env0, SX.TD.isAgg, SX.TD.isIface, SX.tails, SX.NotAgg, SX.evLookup, SX.evConvH, SX.evPtrEq, SX.isCells, SX.thaw, SX.frz, SX.fixB, SX.rootIx, SX.Froz, SX.frzStep, SX.fork, Go.Value.cells, Go.undef, cfg27, Tryd.f27]
    refine ⟨by (unfold SX.Ob; first | trivial | omega | ((try simp only [SX.inK]); (try simp [SX.den, SX.IsU8, SX.AllP, *]); (try omega))), ?_⟩
    intro a1 w1 hr1 _
    refine post_retn (end1 hr1 rfl rfl ⟨⟨_, rfl, .inr ⟨by decide, sS, 0, 5, _, _, ?_, rfl, rep_arr_sub hr1.all.2.1.1 (Nat.le_refl _) fun j hj => ?_, by decide⟩⟩, hr1.keeps.toBelow⟩).1
    · refine ⟨by omega, ?_⟩
      obtain ⟨c_, hc_, _⟩ := hr1.all.2.1.1
      rw [hc_]
      rfl
    · match j, hj with
      | 0, _ => rfl
      | 1, _ => rfl
      | 2, _ => rfl
      | 3, _ => rfl
      | 4, _ => rfl
  by_cases h9 : c0 = 9
  · subst h9
    refine seg cfg27_ok mixed PanicFree.body 1000 [false, false, false, false, false, false, false, false, false, false, true] [] hr (by first | trivial | exact HpRep.nil | assumption) (by kernel_rfl) fun sS hsS => ?_
    simp (maxSteps := 10000000) [SX.vc, SX.stop, SX.contS, SX.contB, SX.contW, SX.contR, SX.contD, SX.sxStep, SX.stepPure, SX.stepNew, SX.stepStore, SX.stepKeep, SX.guardIx, SX.evOp, SX.opd, SX.opds, SX.optOpd, SX.look, SX.putS, SX.gobs, SX.AllP, SX.leave, SX.lookC, SX.lookB, SX.lookT, SX.lookN, SX.findK, SX.evBuiltin, SX.ints, SX.foldI, SX.evBin, SX.evInt, SX.evStr, SX.evEq, SX.arith, SX.evLoad, SX.shapeUp, SX.evFieldAddr, SX.evField, SX.evIndexAddr, SX.evIndex, SX.evFill, SX.evBuild, SX.szs, SX.cellsV, SX.evNew, SX.evStore, SX.spliceL, SX.SV.cells, SX.evConv, SX.evSlice, SX.bnd, SX.evNil, SX.evUn, SX.evPick, SX.pickOpd, SX.popTo, SX.cnd, SX.env0, SX.TD.isAgg, SX.TD.isIface, SX.tails, SX.NotAgg, SX.evLookup, SX.evConvH, SX.evPtrEq, SX.isCells, SX.thaw, SX.frz, SX.fixB, SX.rootIx, SX.Froz, SX.frzStep, SX.fork, Go.Value.cells, Go.undef, cfg27, Tryd.f27]
    refine ⟨by (unfold SX.Ob; first | trivial | omega | ((try simp only [SX.inK]); (try simp [SX.den, SX.IsU8, SX.AllP, *]); (try omega))), ?_⟩
    intro a1 w1 hr1 _
    refine post_retn (end1 hr1 rfl rfl ⟨⟨_, rfl, .inr ⟨by decide, sS, 0, 1, _, _, ?_, rfl, rep_arr_sub hr1.all.2.1.1 (Nat.le_refl _) fun j hj => ?_, by decide⟩⟩, hr1.keeps.toBelow⟩).1
    · refine ⟨by omega, ?_⟩
      obtain ⟨c_, hc_, _⟩ := hr1.all.2.1.1
      rw [hc_]
      rfl
    · match j, hj with
      | 0, _ => rfl
  by_cases h10 : c0 = 10
  · subst h10
    refine seg cfg27_ok mixed PanicFree.body 1000 [false, false, true] [] hr (by first | trivial | exact HpRep.nil | assumption) (by kernel_rfl) fun sS hsS => ?_
    simp (maxSteps := 10000000) [SX.vc, SX.stop, SX.contS, SX.contB, SX.contW, SX.contR, SX.contD, SX.sxStep, SX.stepPure, SX.stepNew, SX.stepStore, SX.stepKeep, SX.guardIx, SX.evOp, SX.opd, SX.opds, SX.optOpd, SX.look, SX.putS, SX.gobs, SX.AllP, SX.leave, SX.lookC, SX.lookB, SX.lookT, SX.lookN, SX.findK, SX.evBuiltin, SX.ints, SX.foldI, SX.evBin, SX.evInt, SX.evStr, SX.evEq, SX.arith, SX.evLoad, SX.shapeUp, SX.evFieldAddr, SX.evField, SX.evIndexAddr, SX.evIndex, SX.evFill, SX.evBuild, SX.szs, SX.cellsV, SX.evNew, SX.evStore, SX.spliceL, SX.SV.cells, SX.evConv, SX.evSlice, SX.bnd, SX.evNil, SX.evUn, SX.evPick, SX.pickOpd, SX.popTo, SX.cnd, SX.env0, SX.TD.isAgg, SX.TD.isIface, SX.tails, SX.NotAgg, SX.evLookup, SX.evConvH, SX.evPtrEq, SX.isCells, SX.thaw, SX.frz, SX.fixB, SX.rootIx, SX.Froz, SX.frzStep, SX.fork, Go.Value.cells, Go.undef, cfg27, Tryd.f27]
    refine ⟨by (unfold SX.Ob; first | trivial | omega | ((try simp only [SX.inK]); (try simp [SX.den, SX.IsU8, SX.AllP, *]); (try omega))), ?_⟩
    intro a1 w1 hr1 _
    refine post_retn (end1 hr1 rfl rfl ⟨⟨_, rfl, .inr ⟨by decide, sS, 0, 1, _, _, ?_, rfl, rep_arr_sub hr1.all.2.1.1 (Nat.le_refl _) fun j hj => ?_, by decide⟩⟩, hr1.keeps.toBelow⟩).1
    · refine ⟨by omega, ?_⟩
      obtain ⟨c_, hc_, _⟩ := hr1.all.2.1.1
      rw [hc_]
      rfl
    · match j, hj with
      | 0, _ => rfl
  by_cases h11 : c0 = 11
  · subst h11
    refine seg cfg27_ok mixed PanicFree.body 1000 [false, false, false, false, true] [] hr (by first | trivial | exact HpRep.nil | assumption) (by kernel_rfl) fun sS hsS => ?_
    simp (maxSteps := 10000000) [SX.vc, SX.stop, SX.contS, SX.contB, SX.contW, SX.contR, SX.contD, SX.sxStep, SX.stepPure, SX.stepNew, SX.stepStore, SX.stepKeep, SX.guardIx, SX.evOp, SX.opd, SX.opds, SX.optOpd, SX.look, SX.putS, SX.gobs, SX.AllP, SX.leave, SX.lookC, SX.lookB, SX.lookT, SX.lookN, SX.findK, SX.evBuiltin, SX.ints, SX.foldI, SX.evBin, SX.evInt, SX.evStr, SX.evEq, SX.arith, SX.evLoad, SX.shapeUp, SX.evFieldAddr, SX.evField, SX.evIndexAddr, SX.evIndex, SX.evFill, SX.evBuild, SX.szs, SX.cellsV, SX.evNew, SX.evStore, SX.spliceL, SX.SV.cells, SX.evConv, SX.evSlice, SX.bnd, SX.evNil, SX.evUn, SX.evPick, SX.pickOpd, SX.popTo, SX.cnd, SX.env0, SX.TD.isAgg, SX.TD.isIface, SX.tails, SX.NotAgg, SX.evLookup, SX.evConvH, SX.evPtrEq, SX.isCells, SX.thaw, SX.frz, SX.fixB, SX.rootIx, SX.Froz, SX.frzStep, SX.fork, Go.Value.cells, Go.undef, cfg27, Tryd.f27]
    refine ⟨by (unfold SX.Ob; first | trivial | omega | ((try simp only [SX.inK]); (try simp [SX.den, SX.IsU8, SX.AllP, *]); (try omega))), ?_⟩
    intro a1 w1 hr1 _
    refine post_retn (end1 hr1 rfl rfl ⟨⟨_, rfl, .inr ⟨by decide, sS, 0, 2, _, _, ?_, rfl, rep_arr_sub hr1.all.2.1.1 (Nat.le_refl _) fun j hj => ?_, by decide⟩⟩, hr1.keeps.toBelow⟩).1
    · refine ⟨by omega, ?_⟩
      obtain ⟨c_, hc_, _⟩ := hr1.all.2.1.1
      rw [hc_]
      rfl
    · match j, hj with
      | 0, _ => rfl
      | 1, _ => rfl
  refine seg cfg27_ok mixed PanicFree.body 1000 [false, false, false, false, false, false, false, false, false, false, false] [] hr (by first | trivial | exact HpRep.nil | assumption) (by kernel_rfl) fun sS hsS => ?_
  simp (maxSteps := 10000000) [SX.vc, SX.stop, SX.contS, SX.contB, SX.contW, SX.contR, SX.contD, SX.sxStep, SX.stepPure, SX.stepNew, SX.stepStore, SX.stepKeep, SX.guardIx, SX.evOp, SX.opd, SX.opds, SX.optOpd, SX.look, SX.putS, SX.gobs, SX.AllP, SX.leave, SX.lookC, SX.lookB, SX.lookT, SX.lookN, SX.findK, SX.evBuiltin, SX.ints, SX.foldI, SX.evBin, SX.evInt, SX.evStr, SX.evEq, SX.arith, SX.evLoad, SX.shapeUp, SX.evFieldAddr, SX.evField, SX.evIndexAddr, SX.evIndex, SX.evFill, SX.evBuild, SX.szs, SX.cellsV, SX.evNew, SX.evStore, SX.spliceL, SX.SV.cells, SX.evConv, SX.evSlice, SX.bnd, SX.evNil, SX.evUn, SX.evPick, SX.pickOpd, SX.popTo, SX.cnd, SX.env0, SX.TD.isAgg, SX.TD.isIface, SX.tails, SX.NotAgg, SX.evLookup, SX.evConvH, SX.evPtrEq, SX.isCells, SX.thaw, SX.frz, SX.fixB, SX.rootIx, SX.Froz, SX.frzStep, SX.fork, Go.Value.cells, Go.undef, cfg27, Tryd.f27, h1, h2, h3, h4, h5, h6, h7, h8, h9, h10, h11]
  refine ⟨by (unfold SX.Ob; first | trivial | omega | ((try simp only [SX.inK]); (try simp [SX.den, SX.IsU8, SX.AllP, *]); (try omega))), ?_⟩
  intro a1 w1 hr1 _
  refine post_retn (end1 hr1 rfl rfl ⟨⟨_, rfl, .inl ⟨?_, _, _, rfl⟩⟩, hr1.keeps.toBelow⟩).1
  simp [flds, h1, h2, h3, h4, h5, h6, h7, h8, h9, h10, h11]
end Go.Proofs
