/- Requests: Same. -/
import Derived.Test.YtffooiccklfhlaaNP
namespace Go.Proofs
set_option linter.unusedVariables false
set_option linter.unusedSimpArgs false
set_option linter.unusedSectionVars false
open Go Go.SX Go.RowKit

/-- A call that says yes or no; what follows from a yes. -/
def YesR (w : World) (Q : Prop) (e : Ending) (w' : World) : Prop := ∃ b : Bool, e = .returned (.bool b) ∧ (b = true → Q) ∧ Below w.heap.size w w'

set_option maxRecDepth 100000 in
set_option maxHeartbeats 16000000 in
/-- sameMsg. -/
theorem smsg_ok {P P' : Nat → Prop} (w : World) (x y : Mg) (hx : RdM P w x) (hy : RdM P' w y) (lx : LitM x) (ly : LitM y) : Calls Try.prog 27 (denL [.ag (mgC x), .ag (mgC y)]).toArray w (YesR w True) := by
  obtain ⟨⟨A, hA, hRA⟩, D, hD, hRD⟩ := hx
  obtain ⟨⟨A', hA', hRA'⟩, D', hD', hRD'⟩ := hy
  obtain ⟨l1, l2⟩ := lx
  obtain ⟨l3, l4⟩ := ly
  refine enter (F := frame0 w) Try.func27 rfl [.ag (mgC x), .ag (mgC y)] [] (by simp [Try.f27]) trivial (keeps0 w) fun a hr => ?_
  refine seg cfg27_ok mixed PanicFree.body 1000 [] [] hr (by first | trivial | exact HpRep.nil | assumption) (by kernel_rfl) fun s_ hs_ => ?_
  simp (maxSteps := 10000000) [SX.vc, SX.stop, SX.contS, SX.contB, SX.contW, SX.contR, SX.contD, SX.sxStep, SX.stepPure, SX.stepNew, SX.stepStore, SX.stepKeep, SX.guardIx, SX.evOp, SX.opd, SX.opds, SX.optOpd, SX.look, SX.putS, SX.gobs, SX.AllP, SX.leave, SX.lookC, SX.lookB, SX.lookT, SX.lookN, SX.findK, SX.evBuiltin, SX.ints, SX.foldI, SX.evBin, SX.evInt, SX.evStr, SX.evEq, SX.arith, SX.evLoad, SX.shapeUp, SX.evFieldAddr, SX.evField, SX.evIndexAddr, SX.evIndex, SX.evFill, SX.evBuild, SX.szs, SX.cellsV, SX.evNew, SX.evStore, SX.spliceL, SX.SV.cells, SX.evConv, SX.evSlice, SX.bnd, SX.evNil, SX.evUn, SX.evPick, SX.pickOpd, SX.popTo, SX.cnd, SX.env0, SX.TD.isAgg, SX.TD.isIface, SX.tails, SX.NotAgg, SX.evLookup, SX.evConvH, SX.evPtrEq, SX.isCells, SX.thaw, SX.frz, SX.fixB, SX.rootIx, SX.Froz, SX.frzStep, SX.fork, Go.Value.cells, Go.undef, cfg27, Try.f27, mgC]
  refine ⟨by (unfold SX.Ob; first | trivial | omega | ((try simp only [SX.inK]); (try simp [SX.den, SX.IsU8, SX.AllP, *]); (try omega))), ?_⟩
  intro a1 w1 hr1 _
  refine post_eqP (C := cfg27) cfg27_ok (ok := fun _ => false) (by simp) hr1 rfl rfl rfl (by kernel_rfl) (b := x.kind == y.kind && (x.frm == y.frm && (x.to == y.to && x.mid == y.mid))) (by simp [evEqA, evEqI, eqPlain, cfg27, lookT, shapeUp, TD.isAgg, List.range, List.range.loop]) (wanted_none rfl) rfl (by simp) rfl fun a2 hr2 => ?_
  simp only [SX.eqR] at hr2
  obtain ⟨q, hq⟩ : ∃ q, (x.kind == y.kind && (x.frm == y.frm && (x.to == y.to && x.mid == y.mid))) = q := ⟨_, rfl⟩
  rw [hq] at hr2
  cases q
  · refine seg cfg27_ok mixed PanicFree.body 1000 [] [(24, false), (31, false)] hr2 (by first | trivial | exact HpRep.nil | assumption) (by kernel_rfl) fun s_ hs_ => ?_
    simp (maxSteps := 10000000) [SX.vc, SX.stop, SX.contS, SX.contB, SX.contW, SX.contR, SX.contD, SX.sxStep, SX.stepPure, SX.stepNew, SX.stepStore, SX.stepKeep, SX.guardIx, SX.evOp, SX.opd, SX.opds, SX.optOpd, SX.look, SX.putS, SX.gobs, SX.AllP, SX.leave, SX.lookC, SX.lookB, SX.lookT, SX.lookN, SX.findK, SX.evBuiltin, SX.ints, SX.foldI, SX.evBin, SX.evInt, SX.evStr, SX.evEq, SX.arith, SX.evLoad, SX.shapeUp, SX.evFieldAddr, SX.evField, SX.evIndexAddr, SX.evIndex, SX.evFill, SX.evBuild, SX.szs, SX.cellsV, SX.evNew, SX.evStore, SX.spliceL, SX.SV.cells, SX.evConv, SX.evSlice, SX.bnd, SX.evNil, SX.evUn, SX.evPick, SX.pickOpd, SX.popTo, SX.cnd, SX.env0, SX.TD.isAgg, SX.TD.isIface, SX.tails, SX.NotAgg, SX.evLookup, SX.evConvH, SX.evPtrEq, SX.isCells, SX.thaw, SX.frz, SX.fixB, SX.rootIx, SX.Froz, SX.frzStep, SX.fork, Go.Value.cells, Go.undef, cfg27]
    refine ⟨by (unfold SX.Ob; first | trivial | omega | ((try simp only [SX.inK]); (try simp [SX.den, SX.IsU8, SX.AllP, *]); (try omega))), ?_⟩
    intro a3 w3 hr3 _
    exact post_retn (end1 hr3 rfl rfl ⟨_, rfl, fun _ => trivial, hr3.keeps.toBelow⟩).1
  refine seg cfg27_ok mixed PanicFree.body 1000 [] [(24, true)] hr2 (by first | trivial | exact HpRep.nil | assumption) (by kernel_rfl) fun s_ hs_ => ?_
  simp (maxSteps := 10000000) [SX.vc, SX.stop, SX.contS, SX.contB, SX.contW, SX.contR, SX.contD, SX.sxStep, SX.stepPure, SX.stepNew, SX.stepStore, SX.stepKeep, SX.guardIx, SX.evOp, SX.opd, SX.opds, SX.optOpd, SX.look, SX.putS, SX.gobs, SX.AllP, SX.leave, SX.lookC, SX.lookB, SX.lookT, SX.lookN, SX.findK, SX.evBuiltin, SX.ints, SX.foldI, SX.evBin, SX.evInt, SX.evStr, SX.evEq, SX.arith, SX.evLoad, SX.shapeUp, SX.evFieldAddr, SX.evField, SX.evIndexAddr, SX.evIndex, SX.evFill, SX.evBuild, SX.szs, SX.cellsV, SX.evNew, SX.evStore, SX.spliceL, SX.SV.cells, SX.evConv, SX.evSlice, SX.bnd, SX.evNil, SX.evUn, SX.evPick, SX.pickOpd, SX.popTo, SX.cnd, SX.env0, SX.TD.isAgg, SX.TD.isIface, SX.tails, SX.NotAgg, SX.evLookup, SX.evConvH, SX.evPtrEq, SX.isCells, SX.thaw, SX.frz, SX.fixB, SX.rootIx, SX.Froz, SX.frzStep, SX.fork, Go.Value.cells, Go.undef, cfg27]
  refine ⟨by (unfold SX.Ob; first | trivial | omega | ((try simp only [SX.inK]); (try simp [SX.den, SX.IsU8, SX.AllP, *]); (try omega))), ?_⟩
  intro a3 w3 hr3 _
  refine post_call 40 [.v (.slice x.a1 x.n1 x.c1), .v (.slice y.a1 y.n1 y.c1)] hr3 (by first | exact wanted_none rfl | exact wanted_zero (hr3.env.same rfl rfl rfl rfl) rfl (by simp) | exact wanted_zero (hr3.env.same rfl rfl rfl rfl) rfl (by simp [*])) rfl (callable 40 Try.func40) (eq40_ok w3 _ _ A A' (hRA.below hr3.keeps.toBelow) (hRA'.below hr3.keeps.toBelow) (by omega) (by omega)) ?_
  rintro e4 w4 ⟨rfl, hb4⟩
  refine ⟨_, rfl, ?_⟩
  have h4 := hr3.ret hb4 29 (.v (.bool (decide (A = A')))) rfl _ (hr3.all.below hb4) (by simp) rfl
  by_cases hAA : A = A'
  rotate_left
  · refine seg cfg27_ok mixed PanicFree.body 1000 [] [(24, true), (31, false)] h4 (by first | trivial | exact HpRep.nil | assumption) (by kernel_rfl) fun s_ hs_ => ?_
    simp (maxSteps := 10000000) [SX.vc, SX.stop, SX.contS, SX.contB, SX.contW, SX.contR, SX.contD, SX.sxStep, SX.stepPure, SX.stepNew, SX.stepStore, SX.stepKeep, SX.guardIx, SX.evOp, SX.opd, SX.opds, SX.optOpd, SX.look, SX.putS, SX.gobs, SX.AllP, SX.leave, SX.lookC, SX.lookB, SX.lookT, SX.lookN, SX.findK, SX.evBuiltin, SX.ints, SX.foldI, SX.evBin, SX.evInt, SX.evStr, SX.evEq, SX.arith, SX.evLoad, SX.shapeUp, SX.evFieldAddr, SX.evField, SX.evIndexAddr, SX.evIndex, SX.evFill, SX.evBuild, SX.szs, SX.cellsV, SX.evNew, SX.evStore, SX.spliceL, SX.SV.cells, SX.evConv, SX.evSlice, SX.bnd, SX.evNil, SX.evUn, SX.evPick, SX.pickOpd, SX.popTo, SX.cnd, SX.env0, SX.TD.isAgg, SX.TD.isIface, SX.tails, SX.NotAgg, SX.evLookup, SX.evConvH, SX.evPtrEq, SX.isCells, SX.thaw, SX.frz, SX.fixB, SX.rootIx, SX.Froz, SX.frzStep, SX.fork, Go.Value.cells, Go.undef, cfg27, hAA]
    refine ⟨by (unfold SX.Ob; first | trivial | omega | ((try simp only [SX.inK]); (try simp [SX.den, SX.IsU8, SX.AllP, *]); (try omega))), ?_⟩
    intro a5 w5 hr5 _
    exact post_retn (end1 hr5 rfl rfl ⟨_, rfl, fun _ => trivial, hr5.keeps.toBelow⟩).1
  refine seg cfg27_ok mixed PanicFree.body 1000 [] [(24, true), (31, true)] h4 (by first | trivial | exact HpRep.nil | assumption) (by kernel_rfl) fun s_ hs_ => ?_
  simp (maxSteps := 10000000) [SX.vc, SX.stop, SX.contS, SX.contB, SX.contW, SX.contR, SX.contD, SX.sxStep, SX.stepPure, SX.stepNew, SX.stepStore, SX.stepKeep, SX.guardIx, SX.evOp, SX.opd, SX.opds, SX.optOpd, SX.look, SX.putS, SX.gobs, SX.AllP, SX.leave, SX.lookC, SX.lookB, SX.lookT, SX.lookN, SX.findK, SX.evBuiltin, SX.ints, SX.foldI, SX.evBin, SX.evInt, SX.evStr, SX.evEq, SX.arith, SX.evLoad, SX.shapeUp, SX.evFieldAddr, SX.evField, SX.evIndexAddr, SX.evIndex, SX.evFill, SX.evBuild, SX.szs, SX.cellsV, SX.evNew, SX.evStore, SX.spliceL, SX.SV.cells, SX.evConv, SX.evSlice, SX.bnd, SX.evNil, SX.evUn, SX.evPick, SX.pickOpd, SX.popTo, SX.cnd, SX.env0, SX.TD.isAgg, SX.TD.isIface, SX.tails, SX.NotAgg, SX.evLookup, SX.evConvH, SX.evPtrEq, SX.isCells, SX.thaw, SX.frz, SX.fixB, SX.rootIx, SX.Froz, SX.frzStep, SX.fork, Go.Value.cells, Go.undef, cfg27, hAA]
  refine ⟨by (unfold SX.Ob; first | trivial | omega | ((try simp only [SX.inK]); (try simp [SX.den, SX.IsU8, SX.AllP, *]); (try omega))), ?_⟩
  intro a5 w5 hr5 _
  refine post_call 41 [.v (.slice x.a2 x.n2 x.c2), .v (.slice y.a2 y.n2 y.c2)] hr5 (by first | exact wanted_none rfl | exact wanted_zero (hr5.env.same rfl rfl rfl rfl) rfl (by simp) | exact wanted_zero (hr5.env.same rfl rfl rfl rfl) rfl (by simp [*])) rfl (callable 41 Try.func41) (eq41_ok w5 _ _ D D' (hRD.below hr5.keeps.toBelow) (hRD'.below hr5.keeps.toBelow) (by omega) (by omega)) ?_
  rintro e6 w6 ⟨rfl, hb6⟩
  refine ⟨_, rfl, ?_⟩
  have h6 := hr5.ret hb6 36 (.v (.bool (decide (D = D')))) rfl _ (hr5.all.below hb6) (by simp) rfl
  refine seg cfg27_ok mixed PanicFree.body 1000 [] [(24, true), (31, true)] h6 (by first | trivial | exact HpRep.nil | assumption) (by kernel_rfl) fun s_ hs_ => ?_
  simp (maxSteps := 10000000) [SX.vc, SX.stop, SX.contS, SX.contB, SX.contW, SX.contR, SX.contD, SX.sxStep, SX.stepPure, SX.stepNew, SX.stepStore, SX.stepKeep, SX.guardIx, SX.evOp, SX.opd, SX.opds, SX.optOpd, SX.look, SX.putS, SX.gobs, SX.AllP, SX.leave, SX.lookC, SX.lookB, SX.lookT, SX.lookN, SX.findK, SX.evBuiltin, SX.ints, SX.foldI, SX.evBin, SX.evInt, SX.evStr, SX.evEq, SX.arith, SX.evLoad, SX.shapeUp, SX.evFieldAddr, SX.evField, SX.evIndexAddr, SX.evIndex, SX.evFill, SX.evBuild, SX.szs, SX.cellsV, SX.evNew, SX.evStore, SX.spliceL, SX.SV.cells, SX.evConv, SX.evSlice, SX.bnd, SX.evNil, SX.evUn, SX.evPick, SX.pickOpd, SX.popTo, SX.cnd, SX.env0, SX.TD.isAgg, SX.TD.isIface, SX.tails, SX.NotAgg, SX.evLookup, SX.evConvH, SX.evPtrEq, SX.isCells, SX.thaw, SX.frz, SX.fixB, SX.rootIx, SX.Froz, SX.frzStep, SX.fork, Go.Value.cells, Go.undef, cfg27, hAA]
  refine ⟨by (unfold SX.Ob; first | trivial | omega | ((try simp only [SX.inK]); (try simp [SX.den, SX.IsU8, SX.AllP, *]); (try omega))), ?_⟩
  intro a7 w7 hr7 _
  exact post_retn (end1 hr7 rfl rfl ⟨_, rfl, fun _ => trivial, hr7.keeps.toBelow⟩).1

def Al25 (x y : Sad) : Prop := True
def Al23 (x y : Sen) : Prop := x.frm = y.frm ∧ x.below = y.below ∧ x.S.length = y.S.length
def GoodA (P : Nat → Prop) (w : World) (S : List Sad) : Prop := ∀ x ∈ S, RdM P w x.m ∧ LitM x.m
theorem GoodA.below {P : Nat → Prop} {w w' : World} {S : List Sad} (h : GoodA P w S) (hb : Below w.heap.size w w') : GoodA P w' S := fun x hx => ⟨(h x hx).1.below hb, (h x hx).2⟩

set_option maxRecDepth 100000 in
set_option maxHeartbeats 16000000 in
/-- Same's inner closure. -/
theorem c26_ok {P P' : Nat → Prop} (w : World) (x y : Sad) (hx : RdM P w x.m) (hy : RdM P' w y.m) (lx : LitM x.m) (ly : LitM y.m) : Calls Try.prog 26 (denL [.ag (sadC x), .ag (sadC y)]).toArray w (YesR w (Al25 x y)) := by
  refine enter (F := frame0 w) Try.func26 rfl [.ag (sadC x), .ag (sadC y)] [] (by simp [Try.f26]) trivial (keeps0 w) fun a hr => ?_
  by_cases h : x.id = y.id
  rotate_left
  · have h' : (x.id == y.id) = false := by simpa using h
    refine seg cfg26_ok mixed PanicFree.body 1000 [] [(10, false)] hr (by first | trivial | exact HpRep.nil | assumption) (by kernel_rfl) fun s_ hs_ => ?_
    simp (maxSteps := 10000000) [SX.vc, SX.stop, SX.contS, SX.contB, SX.contW, SX.contR, SX.contD, SX.sxStep, SX.stepPure, SX.stepNew, SX.stepStore, SX.stepKeep, SX.guardIx, SX.evOp, SX.opd, SX.opds, SX.optOpd, SX.look, SX.putS, SX.gobs, SX.AllP, SX.leave, SX.lookC, SX.lookB, SX.lookT, SX.lookN, SX.findK, SX.evBuiltin, SX.ints, SX.foldI, SX.evBin, SX.evInt, SX.evStr, SX.evEq, SX.arith, SX.evLoad, SX.shapeUp, SX.evFieldAddr, SX.evField, SX.evIndexAddr, SX.evIndex, SX.evFill, SX.evBuild, SX.szs, SX.cellsV, SX.evNew, SX.evStore, SX.spliceL, SX.SV.cells, SX.evConv, SX.evSlice, SX.bnd, SX.evNil, SX.evUn, SX.evPick, SX.pickOpd, SX.popTo, SX.cnd, SX.env0, SX.TD.isAgg, SX.TD.isIface, SX.tails, SX.NotAgg, SX.evLookup, SX.evConvH, SX.evPtrEq, SX.isCells, SX.thaw, SX.frz, SX.fixB, SX.rootIx, SX.Froz, SX.frzStep, SX.fork, Go.Value.cells, Go.undef, cfg26, Try.f26, sadC, h']
    refine ⟨by (unfold SX.Ob; first | trivial | omega | ((try simp only [SX.inK]); (try simp [SX.den, SX.IsU8, SX.AllP, *]); (try omega))), ?_⟩
    intro a1 w1 hr1 _
    exact post_retn (end1 hr1 rfl rfl ⟨_, rfl, fun _ => trivial, hr1.keeps.toBelow⟩).1
  · have h' : (x.id == y.id) = true := by simpa using h
    refine seg cfg26_ok mixed PanicFree.body 1000 [] [(10, true)] hr (by first | trivial | exact HpRep.nil | assumption) (by kernel_rfl) fun s_ hs_ => ?_
    simp (maxSteps := 10000000) [SX.vc, SX.stop, SX.contS, SX.contB, SX.contW, SX.contR, SX.contD, SX.sxStep, SX.stepPure, SX.stepNew, SX.stepStore, SX.stepKeep, SX.guardIx, SX.evOp, SX.opd, SX.opds, SX.optOpd, SX.look, SX.putS, SX.gobs, SX.AllP, SX.leave, SX.lookC, SX.lookB, SX.lookT, SX.lookN, SX.findK, SX.evBuiltin, SX.ints, SX.foldI, SX.evBin, SX.evInt, SX.evStr, SX.evEq, SX.arith, SX.evLoad, SX.shapeUp, SX.evFieldAddr, SX.evField, SX.evIndexAddr, SX.evIndex, SX.evFill, SX.evBuild, SX.szs, SX.cellsV, SX.evNew, SX.evStore, SX.spliceL, SX.SV.cells, SX.evConv, SX.evSlice, SX.bnd, SX.evNil, SX.evUn, SX.evPick, SX.pickOpd, SX.popTo, SX.cnd, SX.env0, SX.TD.isAgg, SX.TD.isIface, SX.tails, SX.NotAgg, SX.evLookup, SX.evConvH, SX.evPtrEq, SX.isCells, SX.thaw, SX.frz, SX.fixB, SX.rootIx, SX.Froz, SX.frzStep, SX.fork, Go.Value.cells, Go.undef, cfg26, Try.f26, sadC, h']
    refine ⟨by (unfold SX.Ob; first | trivial | omega | ((try simp only [SX.inK]); (try simp [SX.den, SX.IsU8, SX.AllP, *]); (try omega))), ?_⟩
    intro a1 w1 hr1 _
    refine post_call 27 [.ag (mgC x.m), .ag (mgC y.m)] hr1 (by first | exact wanted_none rfl | exact wanted_zero (hr1.env.same rfl rfl rfl rfl) rfl (by simp) | exact wanted_zero (hr1.env.same rfl rfl rfl rfl) rfl (by simp [*])) rfl (callable 27 Try.func27) (smsg_ok w1 x.m y.m (hx.below hr1.keeps.toBelow) (hy.below hr1.keeps.toBelow) lx ly) ?_
    rintro e2 w2 ⟨b, rfl, _, hb2⟩
    refine ⟨_, rfl, ?_⟩
    have h2 := hr1.ret hb2 15 (.v (.bool b)) rfl _ (hr1.all.below hb2) (by simp) rfl
    refine seg cfg26_ok mixed PanicFree.body 1000 [] [(10, true)] h2 (by first | trivial | exact HpRep.nil | assumption) (by kernel_rfl) fun s_ hs_ => ?_
    simp (maxSteps := 10000000) [SX.vc, SX.stop, SX.contS, SX.contB, SX.contW, SX.contR, SX.contD, SX.sxStep, SX.stepPure, SX.stepNew, SX.stepStore, SX.stepKeep, SX.guardIx, SX.evOp, SX.opd, SX.opds, SX.optOpd, SX.look, SX.putS, SX.gobs, SX.AllP, SX.leave, SX.lookC, SX.lookB, SX.lookT, SX.lookN, SX.findK, SX.evBuiltin, SX.ints, SX.foldI, SX.evBin, SX.evInt, SX.evStr, SX.evEq, SX.arith, SX.evLoad, SX.shapeUp, SX.evFieldAddr, SX.evField, SX.evIndexAddr, SX.evIndex, SX.evFill, SX.evBuild, SX.szs, SX.cellsV, SX.evNew, SX.evStore, SX.spliceL, SX.SV.cells, SX.evConv, SX.evSlice, SX.bnd, SX.evNil, SX.evUn, SX.evPick, SX.pickOpd, SX.popTo, SX.cnd, SX.env0, SX.TD.isAgg, SX.TD.isIface, SX.tails, SX.NotAgg, SX.evLookup, SX.evConvH, SX.evPtrEq, SX.isCells, SX.thaw, SX.frz, SX.fixB, SX.rootIx, SX.Froz, SX.frzStep, SX.fork, Go.Value.cells, Go.undef, cfg26]
    refine ⟨by (unfold SX.Ob; first | trivial | omega | ((try simp only [SX.inK]); (try simp [SX.den, SX.IsU8, SX.AllP, *]); (try omega))), ?_⟩
    intro a3 w3 hr3 _
    exact post_retn (end1 hr3 rfl rfl ⟨_, rfl, fun _ => trivial, hr3.keeps.toBelow⟩).1

def EqfL25 (w : World) (v v' : Value) (L M : List Sad) (m : Nat) (a : Act) (w' : World) : Prop :=
  ∃ k : Nat, m = L.length - k ∧ k ≤ L.length ∧ (∀ j, j < k → Al25 (nth sad0 L j) (nth sad0 M j)) ∧ RepX (frame0 w) ⟨[(17, 0, .v (.int .i64 k)), (16, 0, .v (.int .i64 L.length)), (15, 0, .v v), (0, 0, .v v), (1, 0, .v v'), (2, 0, .fn (.func 26) [] []), (6, 0, .v (.bool false))], [], 0, 0, 32, [], [], []⟩ a w'

set_option maxRecDepth 100000 in
set_option maxHeartbeats 16000000 in
/-- EqualFunc. -/
theorem eqf25_ok {P P' : Nat → Prop} (w : World) (v v' : Value) (L M : List Sad) (hL : RdA P w v L) (hM : RdA P' w v' M) (hn : L.length ≤ 1000000000000000) (hn' : M.length ≤ 1000000000000000)
    (hg : ∀ w' x y, Below w.heap.size w w' → x ∈ L → y ∈ M → Calls Try.prog 26 (denL [.ag (sadC x), .ag (sadC y)]).toArray w' (YesR w' (Al25 x y))) : Calls Try.prog 25 (denL [.v v, .v v', .fn (.func 26) [] []]).toArray w (YesR w (L.length = M.length ∧ ∀ j, j < L.length → Al25 (nth sad0 L j) (nth sad0 M j))) := by
  obtain ⟨ad, cp, rfl⟩ := hL.slice
  obtain ⟨ad', cp', rfl⟩ := hM.slice
  refine enter (F := frame0 w) Try.func25 rfl [.v (.slice ad L.length cp), .v (.slice ad' M.length cp'), .fn (.func 26) [] []] [] (by simp [Try.f25]) trivial (keeps0 w) fun a hr => ?_
  by_cases hl : L.length = M.length
  rotate_left
  · have hl2 : ((L.length : Int) != (M.length : Int)) = true := by simpa using (by omega : ¬ (L.length : Int) = M.length)
    refine seg cfg25_ok mixed PanicFree.body 1000 [true] [] hr (by first | trivial | exact HpRep.nil | assumption) (by kernel_rfl) fun s_ hs_ => ?_
    simp (maxSteps := 10000000) [SX.vc, SX.stop, SX.contS, SX.contB, SX.contW, SX.contR, SX.contD, SX.sxStep, SX.stepPure, SX.stepNew, SX.stepStore, SX.stepKeep, SX.guardIx, SX.evOp, SX.opd, SX.opds, SX.optOpd, SX.look, SX.putS, SX.gobs, SX.AllP, SX.leave, SX.lookC, SX.lookB, SX.lookT, SX.lookN, SX.findK, SX.evBuiltin, SX.ints, SX.foldI, SX.evBin, SX.evInt, SX.evStr, SX.evEq, SX.arith, SX.evLoad, SX.shapeUp, SX.evFieldAddr, SX.evField, SX.evIndexAddr, SX.evIndex, SX.evFill, SX.evBuild, SX.szs, SX.cellsV, SX.evNew, SX.evStore, SX.spliceL, SX.SV.cells, SX.evConv, SX.evSlice, SX.bnd, SX.evNil, SX.evUn, SX.evPick, SX.pickOpd, SX.popTo, SX.cnd, SX.env0, SX.TD.isAgg, SX.TD.isIface, SX.tails, SX.NotAgg, SX.evLookup, SX.evConvH, SX.evPtrEq, SX.isCells, SX.thaw, SX.frz, SX.fixB, SX.rootIx, SX.Froz, SX.frzStep, SX.fork, Go.Value.cells, Go.undef, cfg25, Try.f25, hl2]
    refine ⟨by (unfold SX.Ob; first | trivial | omega | ((try simp only [SX.inK]); (try simp [SX.den, SX.IsU8, SX.AllP, *]); (try omega))), ?_⟩
    intro a1 w1 hr1 _
    exact post_retn (end1 hr1 rfl rfl ⟨false, rfl, by simp, hr1.keeps.toBelow⟩).1
  have hl2 : ((L.length : Int) != (M.length : Int)) = false := by simp [hl]
  refine seg cfg25_ok mixed PanicFree.body 1000 [false] [] hr (by first | trivial | exact HpRep.nil | assumption) (by kernel_rfl) fun s_ hs_ => ?_
  simp (maxSteps := 10000000) [SX.vc, SX.stop, SX.contS, SX.contB, SX.contW, SX.contR, SX.contD, SX.sxStep, SX.stepPure, SX.stepNew, SX.stepStore, SX.stepKeep, SX.guardIx, SX.evOp, SX.opd, SX.opds, SX.optOpd, SX.look, SX.putS, SX.gobs, SX.AllP, SX.leave, SX.lookC, SX.lookB, SX.lookT, SX.lookN, SX.findK, SX.evBuiltin, SX.ints, SX.foldI, SX.evBin, SX.evInt, SX.evStr, SX.evEq, SX.arith, SX.evLoad, SX.shapeUp, SX.evFieldAddr, SX.evField, SX.evIndexAddr, SX.evIndex, SX.evFill, SX.evBuild, SX.szs, SX.cellsV, SX.evNew, SX.evStore, SX.spliceL, SX.SV.cells, SX.evConv, SX.evSlice, SX.bnd, SX.evNil, SX.evUn, SX.evPick, SX.pickOpd, SX.popTo, SX.cnd, SX.env0, SX.TD.isAgg, SX.TD.isIface, SX.tails, SX.NotAgg, SX.evLookup, SX.evConvH, SX.evPtrEq, SX.isCells, SX.thaw, SX.frz, SX.fixB, SX.rootIx, SX.Froz, SX.frzStep, SX.fork, Go.Value.cells, Go.undef, cfg25, Try.f25, hl2]
  refine ⟨by (unfold SX.Ob; first | trivial | omega | ((try simp only [SX.inK]); (try simp [SX.den, SX.IsU8, SX.AllP, *]); (try omega))), ?_⟩
  intro a1 w1 hr1 _
  refine post_loop (EqfL25 w (.slice ad L.length cp) (.slice ad' M.length cp') L M) L.length ⟨0, rfl, by omega, by omega, hr1.re (by simp [envTo, SX.look]) trivial rfl rfl⟩ ?_
  rintro m a2 w2 ⟨k, rfl, hk, hs, hr2⟩
  by_cases hlt : k < L.length
  · obtain ⟨b, o0, cap, u, fz, hP, hv, hrep⟩ := hL.opn hlt
    obtain ⟨b', o0', cap', u', fz', hP', hv', hrep'⟩ := hM.opn (show k < M.length by omega)
    cases hv
    cases hv'
    have hkM : k < M.length := by omega
    obtain ⟨x, hx⟩ : ∃ x, nth sad0 L k = x := ⟨_, rfl⟩
    obtain ⟨y, hy⟩ : ∃ y, nth sad0 M k = y := ⟨_, rfl⟩
    have h3 := (hr2.top 15 (.sl 0 b o0 0 L.length cp 7) rfl (by simp [den])).see _ (HpAll.one (SO.rep_same hrep (hr2.keeps.toBelow.block _ (SO.rep_lt hrep))))
    refine seg cfg25_ok mixed PanicFree.body 1000 [true] [] h3 (by first | trivial | exact HpRep.nil | assumption) (by kernel_rfl) fun sX hsX => ?_
    simp (maxSteps := 10000000) [SX.vc, SX.stop, SX.contS, SX.contB, SX.contW, SX.contR, SX.contD, SX.sxStep, SX.stepPure, SX.stepNew, SX.stepStore, SX.stepKeep, SX.guardIx, SX.evOp, SX.opd, SX.opds, SX.optOpd, SX.look, SX.putS, SX.gobs, SX.AllP, SX.leave, SX.lookC, SX.lookB, SX.lookT, SX.lookN, SX.findK, SX.evBuiltin, SX.ints, SX.foldI, SX.evBin, SX.evInt, SX.evStr, SX.evEq, SX.arith, SX.evLoad, SX.shapeUp, SX.evFieldAddr, SX.evField, SX.evIndexAddr, SX.evIndex, SX.evFill, SX.evBuild, SX.szs, SX.cellsV, SX.evNew, SX.evStore, SX.spliceL, SX.SV.cells, SX.evConv, SX.evSlice, SX.bnd, SX.evNil, SX.evUn, SX.evPick, SX.pickOpd, SX.popTo, SX.cnd, SX.env0, SX.TD.isAgg, SX.TD.isIface, SX.tails, SX.NotAgg, SX.evLookup, SX.evConvH, SX.evPtrEq, SX.isCells, SX.thaw, SX.frz, SX.fixB, SX.rootIx, SX.Froz, SX.frzStep, SX.fork, Go.Value.cells, Go.undef, cfg25, sadC, hx]
    refine ⟨by (unfold SX.Ob; first | trivial | omega | ((try simp only [SX.inK]); (try simp [SX.den, SX.IsU8, SX.AllP, *]); (try omega))), ?_⟩
    intro a4 w4 hr4 _
    have hA4 := hr4.all
    have lsX : w.heap.size ≤ sX := by
      rcases hA4.2.1.2.1 rfl with h | h
      · exact h
      · cases h
    have lb' := SO.rep_lt hrep'
    have h5 := ((hr4.top 22 (.sl 1 b' o0' 0 M.length cp' 7) rfl (by simp [den])).top 8 (.ptr 0 sX 0) rfl rfl).see [(sX, true, .cells (sadC x) 55), (b', false, .arr o0' M.length (fun j => sadC (nth sad0 M j)) 7 u' fz')] ⟨⟨hA4.2.1.1, hA4.2.1.2.1, by simp; omega⟩, HpAll.one (SO.rep_same hrep' (hr4.keeps.toBelow.block _ lb'))⟩
    refine seg cfg25_ok mixed PanicFree.body 1000 [] [] h5 (by first | trivial | exact HpRep.nil | assumption) (by kernel_rfl) fun s_ hs_ => ?_
    simp (maxSteps := 10000000) [SX.vc, SX.stop, SX.contS, SX.contB, SX.contW, SX.contR, SX.contD, SX.sxStep, SX.stepPure, SX.stepNew, SX.stepStore, SX.stepKeep, SX.guardIx, SX.evOp, SX.opd, SX.opds, SX.optOpd, SX.look, SX.putS, SX.gobs, SX.AllP, SX.leave, SX.lookC, SX.lookB, SX.lookT, SX.lookN, SX.findK, SX.evBuiltin, SX.ints, SX.foldI, SX.evBin, SX.evInt, SX.evStr, SX.evEq, SX.arith, SX.evLoad, SX.shapeUp, SX.evFieldAddr, SX.evField, SX.evIndexAddr, SX.evIndex, SX.evFill, SX.evBuild, SX.szs, SX.cellsV, SX.evNew, SX.evStore, SX.spliceL, SX.SV.cells, SX.evConv, SX.evSlice, SX.bnd, SX.evNil, SX.evUn, SX.evPick, SX.pickOpd, SX.popTo, SX.cnd, SX.env0, SX.TD.isAgg, SX.TD.isIface, SX.tails, SX.NotAgg, SX.evLookup, SX.evConvH, SX.evPtrEq, SX.isCells, SX.thaw, SX.frz, SX.fixB, SX.rootIx, SX.Froz, SX.frzStep, SX.fork, Go.Value.cells, Go.undef, cfg25, sadC, hy]
    refine ⟨by (unfold SX.Ob; first | trivial | omega | ((try simp only [SX.inK]); (try simp [SX.den, SX.IsU8, SX.AllP, *]); (try omega))), ?_⟩
    intro a6 w6 hr6 _
    refine post_call 26 [.ag (sadC x), .ag (sadC y)] hr6 (by first | exact wanted_none rfl | exact wanted_zero (hr6.env.same rfl rfl rfl rfl) rfl (by simp) | exact wanted_zero (hr6.env.same rfl rfl rfl rfl) rfl (by simp [*])) rfl (callable 26 Try.func26) (hg w6 x y hr6.keeps.toBelow (hx ▸ nth_mem hlt) (hy ▸ nth_mem hkM)) ?_
    rintro e7 w7 ⟨t, rfl, hyes, hb7⟩
    refine ⟨_, rfl, ?_⟩
    have h7 := hr6.ret hb7 29 (.v (.bool t)) rfl _ (hr6.all.below hb7) (by simp) rfl
    cases t
    · refine seg cfg25_ok mixed PanicFree.body 1000 [true] [] h7 (by first | trivial | exact HpRep.nil | assumption) (by kernel_rfl) fun s_ hs_ => ?_
      simp (maxSteps := 10000000) [SX.vc, SX.stop, SX.contS, SX.contB, SX.contW, SX.contR, SX.contD, SX.sxStep, SX.stepPure, SX.stepNew, SX.stepStore, SX.stepKeep, SX.guardIx, SX.evOp, SX.opd, SX.opds, SX.optOpd, SX.look, SX.putS, SX.gobs, SX.AllP, SX.leave, SX.lookC, SX.lookB, SX.lookT, SX.lookN, SX.findK, SX.evBuiltin, SX.ints, SX.foldI, SX.evBin, SX.evInt, SX.evStr, SX.evEq, SX.arith, SX.evLoad, SX.shapeUp, SX.evFieldAddr, SX.evField, SX.evIndexAddr, SX.evIndex, SX.evFill, SX.evBuild, SX.szs, SX.cellsV, SX.evNew, SX.evStore, SX.spliceL, SX.SV.cells, SX.evConv, SX.evSlice, SX.bnd, SX.evNil, SX.evUn, SX.evPick, SX.pickOpd, SX.popTo, SX.cnd, SX.env0, SX.TD.isAgg, SX.TD.isIface, SX.tails, SX.NotAgg, SX.evLookup, SX.evConvH, SX.evPtrEq, SX.isCells, SX.thaw, SX.frz, SX.fixB, SX.rootIx, SX.Froz, SX.frzStep, SX.fork, Go.Value.cells, Go.undef, cfg25]
      refine ⟨by (unfold SX.Ob; first | trivial | omega | ((try simp only [SX.inK]); (try simp [SX.den, SX.IsU8, SX.AllP, *]); (try omega))), ?_⟩
      intro a8 w8 hr8 _
      exact post_retn (end1 hr8 rfl rfl ⟨false, rfl, by simp, hr8.keeps.toBelow⟩).1
    · refine seg cfg25_ok mixed PanicFree.body 1000 [false] [] h7 (by first | trivial | exact HpRep.nil | assumption) (by kernel_rfl) fun s_ hs_ => ?_
      simp (maxSteps := 10000000) [SX.vc, SX.stop, SX.contS, SX.contB, SX.contW, SX.contR, SX.contD, SX.sxStep, SX.stepPure, SX.stepNew, SX.stepStore, SX.stepKeep, SX.guardIx, SX.evOp, SX.opd, SX.opds, SX.optOpd, SX.look, SX.putS, SX.gobs, SX.AllP, SX.leave, SX.lookC, SX.lookB, SX.lookT, SX.lookN, SX.findK, SX.evBuiltin, SX.ints, SX.foldI, SX.evBin, SX.evInt, SX.evStr, SX.evEq, SX.arith, SX.evLoad, SX.shapeUp, SX.evFieldAddr, SX.evField, SX.evIndexAddr, SX.evIndex, SX.evFill, SX.evBuild, SX.szs, SX.cellsV, SX.evNew, SX.evStore, SX.spliceL, SX.SV.cells, SX.evConv, SX.evSlice, SX.bnd, SX.evNil, SX.evUn, SX.evPick, SX.pickOpd, SX.popTo, SX.cnd, SX.env0, SX.TD.isAgg, SX.TD.isIface, SX.tails, SX.NotAgg, SX.evLookup, SX.evConvH, SX.evPtrEq, SX.isCells, SX.thaw, SX.frz, SX.fixB, SX.rootIx, SX.Froz, SX.frzStep, SX.fork, Go.Value.cells, Go.undef, cfg25]
      refine ⟨by (unfold SX.Ob; first | trivial | omega | ((try simp only [SX.inK]); (try simp [SX.den, SX.IsU8, SX.AllP, *]); (try omega))), ?_⟩
      intro a8 w8 hr8 _
      exact post_rnd (L.length - (k + 1)) (by omega) ⟨k + 1, rfl, hlt, fun j hj => (by
        rcases Nat.lt_or_ge j k with h | h
        · exact hs j h
        · obtain rfl : j = k := by omega
          rw [hx, hy]; exact hyes rfl), hr8.re (by simp [envTo, SX.look, den]) trivial rfl rfl⟩
  · obtain rfl : k = L.length := by omega
    refine seg cfg25_ok mixed PanicFree.body 1000 [false] [] hr2 (by first | trivial | exact HpRep.nil | assumption) (by kernel_rfl) fun s_ hs_ => ?_
    simp (maxSteps := 10000000) [SX.vc, SX.stop, SX.contS, SX.contB, SX.contW, SX.contR, SX.contD, SX.sxStep, SX.stepPure, SX.stepNew, SX.stepStore, SX.stepKeep, SX.guardIx, SX.evOp, SX.opd, SX.opds, SX.optOpd, SX.look, SX.putS, SX.gobs, SX.AllP, SX.leave, SX.lookC, SX.lookB, SX.lookT, SX.lookN, SX.findK, SX.evBuiltin, SX.ints, SX.foldI, SX.evBin, SX.evInt, SX.evStr, SX.evEq, SX.arith, SX.evLoad, SX.shapeUp, SX.evFieldAddr, SX.evField, SX.evIndexAddr, SX.evIndex, SX.evFill, SX.evBuild, SX.szs, SX.cellsV, SX.evNew, SX.evStore, SX.spliceL, SX.SV.cells, SX.evConv, SX.evSlice, SX.bnd, SX.evNil, SX.evUn, SX.evPick, SX.pickOpd, SX.popTo, SX.cnd, SX.env0, SX.TD.isAgg, SX.TD.isIface, SX.tails, SX.NotAgg, SX.evLookup, SX.evConvH, SX.evPtrEq, SX.isCells, SX.thaw, SX.frz, SX.fixB, SX.rootIx, SX.Froz, SX.frzStep, SX.fork, Go.Value.cells, Go.undef, cfg25]
    refine ⟨by (unfold SX.Ob; first | trivial | omega | ((try simp only [SX.inK]); (try simp [SX.den, SX.IsU8, SX.AllP, *]); (try omega))), ?_⟩
    intro a3 w3 hr3 _
    exact post_retn (end1 hr3 rfl rfl ⟨true, rfl, fun _ => ⟨hl, hs⟩, hr3.keeps.toBelow⟩).1

set_option maxRecDepth 100000 in
set_option maxHeartbeats 16000000 in
/-- Same's closure. -/
theorem c24_ok {P P' : Nat → Prop} (w : World) (x y : Sen) (hx : RdA P w (.slice x.ad x.S.length x.cp) x.S) (hy : RdA P' w (.slice y.ad y.S.length y.cp) y.S) (lx : x.S.length ≤ 1000000) (ly : y.S.length ≤ 1000000) (gx : GoodA P w x.S) (gy : GoodA P' w y.S) : Calls Try.prog 24 (denL [.ag (senC x), .ag (senC y)]).toArray w (YesR w (Al23 x y)) := by
  refine enter (F := frame0 w) Try.func24 rfl [.ag (senC x), .ag (senC y)] [] (by simp [Try.f24]) trivial (keeps0 w) fun a hr => ?_
  by_cases h : x.frm = y.frm
  rotate_left
  · have h' : (x.frm == y.frm) = false := by simpa using h
    refine seg cfg24_ok mixed PanicFree.body 1000 [] [(10, false), (17, false)] hr (by first | trivial | exact HpRep.nil | assumption) (by kernel_rfl) fun s_ hs_ => ?_
    simp (maxSteps := 10000000) [SX.vc, SX.stop, SX.contS, SX.contB, SX.contW, SX.contR, SX.contD, SX.sxStep, SX.stepPure, SX.stepNew, SX.stepStore, SX.stepKeep, SX.guardIx, SX.evOp, SX.opd, SX.opds, SX.optOpd, SX.look, SX.putS, SX.gobs, SX.AllP, SX.leave, SX.lookC, SX.lookB, SX.lookT, SX.lookN, SX.findK, SX.evBuiltin, SX.ints, SX.foldI, SX.evBin, SX.evInt, SX.evStr, SX.evEq, SX.arith, SX.evLoad, SX.shapeUp, SX.evFieldAddr, SX.evField, SX.evIndexAddr, SX.evIndex, SX.evFill, SX.evBuild, SX.szs, SX.cellsV, SX.evNew, SX.evStore, SX.spliceL, SX.SV.cells, SX.evConv, SX.evSlice, SX.bnd, SX.evNil, SX.evUn, SX.evPick, SX.pickOpd, SX.popTo, SX.cnd, SX.env0, SX.TD.isAgg, SX.TD.isIface, SX.tails, SX.NotAgg, SX.evLookup, SX.evConvH, SX.evPtrEq, SX.isCells, SX.thaw, SX.frz, SX.fixB, SX.rootIx, SX.Froz, SX.frzStep, SX.fork, Go.Value.cells, Go.undef, cfg24, Try.f24, senC, h']
    refine ⟨by (unfold SX.Ob; first | trivial | omega | ((try simp only [SX.inK]); (try simp [SX.den, SX.IsU8, SX.AllP, *]); (try omega))), ?_⟩
    intro a1 w1 hr1 _
    exact post_retn (end1 hr1 rfl rfl ⟨_, rfl, by simp, hr1.keeps.toBelow⟩).1
  have h' : (x.frm == y.frm) = true := by simpa using h
  by_cases k : x.below = y.below
  rotate_left
  · have k' : (x.below == y.below) = false := by simpa using k
    refine seg cfg24_ok mixed PanicFree.body 1000 [] [(10, true), (17, false)] hr (by first | trivial | exact HpRep.nil | assumption) (by kernel_rfl) fun s_ hs_ => ?_
    simp (maxSteps := 10000000) [SX.vc, SX.stop, SX.contS, SX.contB, SX.contW, SX.contR, SX.contD, SX.sxStep, SX.stepPure, SX.stepNew, SX.stepStore, SX.stepKeep, SX.guardIx, SX.evOp, SX.opd, SX.opds, SX.optOpd, SX.look, SX.putS, SX.gobs, SX.AllP, SX.leave, SX.lookC, SX.lookB, SX.lookT, SX.lookN, SX.findK, SX.evBuiltin, SX.ints, SX.foldI, SX.evBin, SX.evInt, SX.evStr, SX.evEq, SX.arith, SX.evLoad, SX.shapeUp, SX.evFieldAddr, SX.evField, SX.evIndexAddr, SX.evIndex, SX.evFill, SX.evBuild, SX.szs, SX.cellsV, SX.evNew, SX.evStore, SX.spliceL, SX.SV.cells, SX.evConv, SX.evSlice, SX.bnd, SX.evNil, SX.evUn, SX.evPick, SX.pickOpd, SX.popTo, SX.cnd, SX.env0, SX.TD.isAgg, SX.TD.isIface, SX.tails, SX.NotAgg, SX.evLookup, SX.evConvH, SX.evPtrEq, SX.isCells, SX.thaw, SX.frz, SX.fixB, SX.rootIx, SX.Froz, SX.frzStep, SX.fork, Go.Value.cells, Go.undef, cfg24, Try.f24, senC, h', k']
    refine ⟨by (unfold SX.Ob; first | trivial | omega | ((try simp only [SX.inK]); (try simp [SX.den, SX.IsU8, SX.AllP, *]); (try omega))), ?_⟩
    intro a1 w1 hr1 _
    exact post_retn (end1 hr1 rfl rfl ⟨_, rfl, by simp, hr1.keeps.toBelow⟩).1
  have k' : (x.below == y.below) = true := by simpa using k
  refine seg cfg24_ok mixed PanicFree.body 1000 [] [(10, true), (17, true)] hr (by first | trivial | exact HpRep.nil | assumption) (by kernel_rfl) fun s_ hs_ => ?_
  simp (maxSteps := 10000000) [SX.vc, SX.stop, SX.contS, SX.contB, SX.contW, SX.contR, SX.contD, SX.sxStep, SX.stepPure, SX.stepNew, SX.stepStore, SX.stepKeep, SX.guardIx, SX.evOp, SX.opd, SX.opds, SX.optOpd, SX.look, SX.putS, SX.gobs, SX.AllP, SX.leave, SX.lookC, SX.lookB, SX.lookT, SX.lookN, SX.findK, SX.evBuiltin, SX.ints, SX.foldI, SX.evBin, SX.evInt, SX.evStr, SX.evEq, SX.arith, SX.evLoad, SX.shapeUp, SX.evFieldAddr, SX.evField, SX.evIndexAddr, SX.evIndex, SX.evFill, SX.evBuild, SX.szs, SX.cellsV, SX.evNew, SX.evStore, SX.spliceL, SX.SV.cells, SX.evConv, SX.evSlice, SX.bnd, SX.evNil, SX.evUn, SX.evPick, SX.pickOpd, SX.popTo, SX.cnd, SX.env0, SX.TD.isAgg, SX.TD.isIface, SX.tails, SX.NotAgg, SX.evLookup, SX.evConvH, SX.evPtrEq, SX.isCells, SX.thaw, SX.frz, SX.fixB, SX.rootIx, SX.Froz, SX.frzStep, SX.fork, Go.Value.cells, Go.undef, cfg24, Try.f24, senC, h', k']
  refine ⟨by (unfold SX.Ob; first | trivial | omega | ((try simp only [SX.inK]); (try simp [SX.den, SX.IsU8, SX.AllP, *]); (try omega))), ?_⟩
  intro a1 w1 hr1 _
  refine post_call 25 [.v (.slice x.ad x.S.length x.cp), .v (.slice y.ad y.S.length y.cp), .fn (.func 26) [] []] hr1 (by first | exact wanted_none rfl | exact wanted_zero (hr1.env.same rfl rfl rfl rfl) rfl (by simp) | exact wanted_zero (hr1.env.same rfl rfl rfl rfl) rfl (by simp [*])) rfl (callable 25 Try.func25) (eqf25_ok w1 _ _ x.S y.S (hx.below hr1.keeps.toBelow) (hy.below hr1.keeps.toBelow) (by omega) (by omega) (fun w' p q hb hp hq => c26_ok w' p q (((gx.below hr1.keeps.toBelow).below hb) p hp).1 (((gy.below hr1.keeps.toBelow).below hb) q hq).1 (gx p hp).2 (gy q hq).2)) ?_
  rintro e2 w2 ⟨b, rfl, hyes, hb2⟩
  refine ⟨_, rfl, ?_⟩
  have h2 := hr1.ret hb2 22 (.v (.bool b)) rfl _ (hr1.all.below hb2) (by simp) rfl
  refine seg cfg24_ok mixed PanicFree.body 1000 [] [(10, true), (17, true)] h2 (by first | trivial | exact HpRep.nil | assumption) (by kernel_rfl) fun s_ hs_ => ?_
  simp (maxSteps := 10000000) [SX.vc, SX.stop, SX.contS, SX.contB, SX.contW, SX.contR, SX.contD, SX.sxStep, SX.stepPure, SX.stepNew, SX.stepStore, SX.stepKeep, SX.guardIx, SX.evOp, SX.opd, SX.opds, SX.optOpd, SX.look, SX.putS, SX.gobs, SX.AllP, SX.leave, SX.lookC, SX.lookB, SX.lookT, SX.lookN, SX.findK, SX.evBuiltin, SX.ints, SX.foldI, SX.evBin, SX.evInt, SX.evStr, SX.evEq, SX.arith, SX.evLoad, SX.shapeUp, SX.evFieldAddr, SX.evField, SX.evIndexAddr, SX.evIndex, SX.evFill, SX.evBuild, SX.szs, SX.cellsV, SX.evNew, SX.evStore, SX.spliceL, SX.SV.cells, SX.evConv, SX.evSlice, SX.bnd, SX.evNil, SX.evUn, SX.evPick, SX.pickOpd, SX.popTo, SX.cnd, SX.env0, SX.TD.isAgg, SX.TD.isIface, SX.tails, SX.NotAgg, SX.evLookup, SX.evConvH, SX.evPtrEq, SX.isCells, SX.thaw, SX.frz, SX.fixB, SX.rootIx, SX.Froz, SX.frzStep, SX.fork, Go.Value.cells, Go.undef, cfg24]
  refine ⟨by (unfold SX.Ob; first | trivial | omega | ((try simp only [SX.inK]); (try simp [SX.den, SX.IsU8, SX.AllP, *]); (try omega))), ?_⟩
  intro a3 w3 hr3 _
  exact post_retn (end1 hr3 rfl rfl ⟨b, rfl, fun hb => ⟨h, k, (hyes hb).1⟩, hr3.keeps.toBelow⟩).1

def EqfL23 (w : World) (v v' : Value) (L M : List Sen) (m : Nat) (a : Act) (w' : World) : Prop :=
  ∃ k : Nat, m = L.length - k ∧ k ≤ L.length ∧ (∀ j, j < k → Al23 (nth sen0 L j) (nth sen0 M j)) ∧ RepX (frame0 w) ⟨[(17, 0, .v (.int .i64 k)), (16, 0, .v (.int .i64 L.length)), (15, 0, .v v), (0, 0, .v v), (1, 0, .v v'), (2, 0, .fn (.func 24) [] []), (6, 0, .v (.bool false))], [], 0, 0, 32, [], [], []⟩ a w'

set_option maxRecDepth 100000 in
set_option maxHeartbeats 16000000 in
/-- EqualFunc. -/
theorem eqf23_ok {P P' : Nat → Prop} (w : World) (v v' : Value) (L M : List Sen) (hL : RdN P w v L) (hM : RdN P' w v' M) (hn : L.length ≤ 1000000000000000) (hn' : M.length ≤ 1000000000000000)
    (hg : ∀ w' x y, Below w.heap.size w w' → x ∈ L → y ∈ M → Calls Try.prog 24 (denL [.ag (senC x), .ag (senC y)]).toArray w' (YesR w' (Al23 x y))) : Calls Try.prog 23 (denL [.v v, .v v', .fn (.func 24) [] []]).toArray w (YesR w (L.length = M.length ∧ ∀ j, j < L.length → Al23 (nth sen0 L j) (nth sen0 M j))) := by
  obtain ⟨ad, cp, rfl⟩ := hL.slice
  obtain ⟨ad', cp', rfl⟩ := hM.slice
  refine enter (F := frame0 w) Try.func23 rfl [.v (.slice ad L.length cp), .v (.slice ad' M.length cp'), .fn (.func 24) [] []] [] (by simp [Try.f23]) trivial (keeps0 w) fun a hr => ?_
  by_cases hl : L.length = M.length
  rotate_left
  · have hl2 : ((L.length : Int) != (M.length : Int)) = true := by simpa using (by omega : ¬ (L.length : Int) = M.length)
    refine seg cfg23_ok mixed PanicFree.body 1000 [true] [] hr (by first | trivial | exact HpRep.nil | assumption) (by kernel_rfl) fun s_ hs_ => ?_
    simp (maxSteps := 10000000) [SX.vc, SX.stop, SX.contS, SX.contB, SX.contW, SX.contR, SX.contD, SX.sxStep, SX.stepPure, SX.stepNew, SX.stepStore, SX.stepKeep, SX.guardIx, SX.evOp, SX.opd, SX.opds, SX.optOpd, SX.look, SX.putS, SX.gobs, SX.AllP, SX.leave, SX.lookC, SX.lookB, SX.lookT, SX.lookN, SX.findK, SX.evBuiltin, SX.ints, SX.foldI, SX.evBin, SX.evInt, SX.evStr, SX.evEq, SX.arith, SX.evLoad, SX.shapeUp, SX.evFieldAddr, SX.evField, SX.evIndexAddr, SX.evIndex, SX.evFill, SX.evBuild, SX.szs, SX.cellsV, SX.evNew, SX.evStore, SX.spliceL, SX.SV.cells, SX.evConv, SX.evSlice, SX.bnd, SX.evNil, SX.evUn, SX.evPick, SX.pickOpd, SX.popTo, SX.cnd, SX.env0, SX.TD.isAgg, SX.TD.isIface, SX.tails, SX.NotAgg, SX.evLookup, SX.evConvH, SX.evPtrEq, SX.isCells, SX.thaw, SX.frz, SX.fixB, SX.rootIx, SX.Froz, SX.frzStep, SX.fork, Go.Value.cells, Go.undef, cfg23, Try.f23, hl2]
    refine ⟨by (unfold SX.Ob; first | trivial | omega | ((try simp only [SX.inK]); (try simp [SX.den, SX.IsU8, SX.AllP, *]); (try omega))), ?_⟩
    intro a1 w1 hr1 _
    exact post_retn (end1 hr1 rfl rfl ⟨false, rfl, by simp, hr1.keeps.toBelow⟩).1
  have hl2 : ((L.length : Int) != (M.length : Int)) = false := by simp [hl]
  refine seg cfg23_ok mixed PanicFree.body 1000 [false] [] hr (by first | trivial | exact HpRep.nil | assumption) (by kernel_rfl) fun s_ hs_ => ?_
  simp (maxSteps := 10000000) [SX.vc, SX.stop, SX.contS, SX.contB, SX.contW, SX.contR, SX.contD, SX.sxStep, SX.stepPure, SX.stepNew, SX.stepStore, SX.stepKeep, SX.guardIx, SX.evOp, SX.opd, SX.opds, SX.optOpd, SX.look, SX.putS, SX.gobs, SX.AllP, SX.leave, SX.lookC, SX.lookB, SX.lookT, SX.lookN, SX.findK, SX.evBuiltin, SX.ints, SX.foldI, SX.evBin, SX.evInt, SX.evStr, SX.evEq, SX.arith, SX.evLoad, SX.shapeUp, SX.evFieldAddr, SX.evField, SX.evIndexAddr, SX.evIndex, SX.evFill, SX.evBuild, SX.szs, SX.cellsV, SX.evNew, SX.evStore, SX.spliceL, SX.SV.cells, SX.evConv, SX.evSlice, SX.bnd, SX.evNil, SX.evUn, SX.evPick, SX.pickOpd, SX.popTo, SX.cnd, SX.env0, SX.TD.isAgg, SX.TD.isIface, SX.tails, SX.NotAgg, SX.evLookup, SX.evConvH, SX.evPtrEq, SX.isCells, SX.thaw, SX.frz, SX.fixB, SX.rootIx, SX.Froz, SX.frzStep, SX.fork, Go.Value.cells, Go.undef, cfg23, Try.f23, hl2]
  refine ⟨by (unfold SX.Ob; first | trivial | omega | ((try simp only [SX.inK]); (try simp [SX.den, SX.IsU8, SX.AllP, *]); (try omega))), ?_⟩
  intro a1 w1 hr1 _
  refine post_loop (EqfL23 w (.slice ad L.length cp) (.slice ad' M.length cp') L M) L.length ⟨0, rfl, by omega, by omega, hr1.re (by simp [envTo, SX.look]) trivial rfl rfl⟩ ?_
  rintro m a2 w2 ⟨k, rfl, hk, hs, hr2⟩
  by_cases hlt : k < L.length
  · obtain ⟨b, o0, cap, u, fz, hP, hv, hrep⟩ := hL.opn hlt
    obtain ⟨b', o0', cap', u', fz', hP', hv', hrep'⟩ := hM.opn (show k < M.length by omega)
    cases hv
    cases hv'
    have hkM : k < M.length := by omega
    obtain ⟨x, hx⟩ : ∃ x, nth sen0 L k = x := ⟨_, rfl⟩
    obtain ⟨y, hy⟩ : ∃ y, nth sen0 M k = y := ⟨_, rfl⟩
    have h3 := (hr2.top 15 (.sl 0 b o0 0 L.length cp 3) rfl (by simp [den])).see _ (HpAll.one (SO.rep_same hrep (hr2.keeps.toBelow.block _ (SO.rep_lt hrep))))
    refine seg cfg23_ok mixed PanicFree.body 1000 [true] [] h3 (by first | trivial | exact HpRep.nil | assumption) (by kernel_rfl) fun sX hsX => ?_
    simp (maxSteps := 10000000) [SX.vc, SX.stop, SX.contS, SX.contB, SX.contW, SX.contR, SX.contD, SX.sxStep, SX.stepPure, SX.stepNew, SX.stepStore, SX.stepKeep, SX.guardIx, SX.evOp, SX.opd, SX.opds, SX.optOpd, SX.look, SX.putS, SX.gobs, SX.AllP, SX.leave, SX.lookC, SX.lookB, SX.lookT, SX.lookN, SX.findK, SX.evBuiltin, SX.ints, SX.foldI, SX.evBin, SX.evInt, SX.evStr, SX.evEq, SX.arith, SX.evLoad, SX.shapeUp, SX.evFieldAddr, SX.evField, SX.evIndexAddr, SX.evIndex, SX.evFill, SX.evBuild, SX.szs, SX.cellsV, SX.evNew, SX.evStore, SX.spliceL, SX.SV.cells, SX.evConv, SX.evSlice, SX.bnd, SX.evNil, SX.evUn, SX.evPick, SX.pickOpd, SX.popTo, SX.cnd, SX.env0, SX.TD.isAgg, SX.TD.isIface, SX.tails, SX.NotAgg, SX.evLookup, SX.evConvH, SX.evPtrEq, SX.isCells, SX.thaw, SX.frz, SX.fixB, SX.rootIx, SX.Froz, SX.frzStep, SX.fork, Go.Value.cells, Go.undef, cfg23, senC, hx]
    refine ⟨by (unfold SX.Ob; first | trivial | omega | ((try simp only [SX.inK]); (try simp [SX.den, SX.IsU8, SX.AllP, *]); (try omega))), ?_⟩
    intro a4 w4 hr4 _
    have hA4 := hr4.all
    have lsX : w.heap.size ≤ sX := by
      rcases hA4.2.1.2.1 rfl with h | h
      · exact h
      · cases h
    have lb' := SO.rep_lt hrep'
    have h5 := ((hr4.top 22 (.sl 1 b' o0' 0 M.length cp' 3) rfl (by simp [den])).top 8 (.ptr 0 sX 0) rfl rfl).see [(sX, true, .cells (senC x) 53), (b', false, .arr o0' M.length (fun j => senC (nth sen0 M j)) 3 u' fz')] ⟨⟨hA4.2.1.1, hA4.2.1.2.1, by simp; omega⟩, HpAll.one (SO.rep_same hrep' (hr4.keeps.toBelow.block _ lb'))⟩
    refine seg cfg23_ok mixed PanicFree.body 1000 [] [] h5 (by first | trivial | exact HpRep.nil | assumption) (by kernel_rfl) fun s_ hs_ => ?_
    simp (maxSteps := 10000000) [SX.vc, SX.stop, SX.contS, SX.contB, SX.contW, SX.contR, SX.contD, SX.sxStep, SX.stepPure, SX.stepNew, SX.stepStore, SX.stepKeep, SX.guardIx, SX.evOp, SX.opd, SX.opds, SX.optOpd, SX.look, SX.putS, SX.gobs, SX.AllP, SX.leave, SX.lookC, SX.lookB, SX.lookT, SX.lookN, SX.findK, SX.evBuiltin, SX.ints, SX.foldI, SX.evBin, SX.evInt, SX.evStr, SX.evEq, SX.arith, SX.evLoad, SX.shapeUp, SX.evFieldAddr, SX.evField, SX.evIndexAddr, SX.evIndex, SX.evFill, SX.evBuild, SX.szs, SX.cellsV, SX.evNew, SX.evStore, SX.spliceL, SX.SV.cells, SX.evConv, SX.evSlice, SX.bnd, SX.evNil, SX.evUn, SX.evPick, SX.pickOpd, SX.popTo, SX.cnd, SX.env0, SX.TD.isAgg, SX.TD.isIface, SX.tails, SX.NotAgg, SX.evLookup, SX.evConvH, SX.evPtrEq, SX.isCells, SX.thaw, SX.frz, SX.fixB, SX.rootIx, SX.Froz, SX.frzStep, SX.fork, Go.Value.cells, Go.undef, cfg23, senC, hy]
    refine ⟨by (unfold SX.Ob; first | trivial | omega | ((try simp only [SX.inK]); (try simp [SX.den, SX.IsU8, SX.AllP, *]); (try omega))), ?_⟩
    intro a6 w6 hr6 _
    refine post_call 24 [.ag (senC x), .ag (senC y)] hr6 (by first | exact wanted_none rfl | exact wanted_zero (hr6.env.same rfl rfl rfl rfl) rfl (by simp) | exact wanted_zero (hr6.env.same rfl rfl rfl rfl) rfl (by simp [*])) rfl (callable 24 Try.func24) (hg w6 x y hr6.keeps.toBelow (hx ▸ nth_mem hlt) (hy ▸ nth_mem hkM)) ?_
    rintro e7 w7 ⟨t, rfl, hyes, hb7⟩
    refine ⟨_, rfl, ?_⟩
    have h7 := hr6.ret hb7 29 (.v (.bool t)) rfl _ (hr6.all.below hb7) (by simp) rfl
    cases t
    · refine seg cfg23_ok mixed PanicFree.body 1000 [true] [] h7 (by first | trivial | exact HpRep.nil | assumption) (by kernel_rfl) fun s_ hs_ => ?_
      simp (maxSteps := 10000000) [SX.vc, SX.stop, SX.contS, SX.contB, SX.contW, SX.contR, SX.contD, SX.sxStep, SX.stepPure, SX.stepNew, SX.stepStore, SX.stepKeep, SX.guardIx, SX.evOp, SX.opd, SX.opds, SX.optOpd, SX.look, SX.putS, SX.gobs, SX.AllP, SX.leave, SX.lookC, SX.lookB, SX.lookT, SX.lookN, SX.findK, SX.evBuiltin, SX.ints, SX.foldI, SX.evBin, SX.evInt, SX.evStr, SX.evEq, SX.arith, SX.evLoad, SX.shapeUp, SX.evFieldAddr, SX.evField, SX.evIndexAddr, SX.evIndex, SX.evFill, SX.evBuild, SX.szs, SX.cellsV, SX.evNew, SX.evStore, SX.spliceL, SX.SV.cells, SX.evConv, SX.evSlice, SX.bnd, SX.evNil, SX.evUn, SX.evPick, SX.pickOpd, SX.popTo, SX.cnd, SX.env0, SX.TD.isAgg, SX.TD.isIface, SX.tails, SX.NotAgg, SX.evLookup, SX.evConvH, SX.evPtrEq, SX.isCells, SX.thaw, SX.frz, SX.fixB, SX.rootIx, SX.Froz, SX.frzStep, SX.fork, Go.Value.cells, Go.undef, cfg23]
      refine ⟨by (unfold SX.Ob; first | trivial | omega | ((try simp only [SX.inK]); (try simp [SX.den, SX.IsU8, SX.AllP, *]); (try omega))), ?_⟩
      intro a8 w8 hr8 _
      exact post_retn (end1 hr8 rfl rfl ⟨false, rfl, by simp, hr8.keeps.toBelow⟩).1
    · refine seg cfg23_ok mixed PanicFree.body 1000 [false] [] h7 (by first | trivial | exact HpRep.nil | assumption) (by kernel_rfl) fun s_ hs_ => ?_
      simp (maxSteps := 10000000) [SX.vc, SX.stop, SX.contS, SX.contB, SX.contW, SX.contR, SX.contD, SX.sxStep, SX.stepPure, SX.stepNew, SX.stepStore, SX.stepKeep, SX.guardIx, SX.evOp, SX.opd, SX.opds, SX.optOpd, SX.look, SX.putS, SX.gobs, SX.AllP, SX.leave, SX.lookC, SX.lookB, SX.lookT, SX.lookN, SX.findK, SX.evBuiltin, SX.ints, SX.foldI, SX.evBin, SX.evInt, SX.evStr, SX.evEq, SX.arith, SX.evLoad, SX.shapeUp, SX.evFieldAddr, SX.evField, SX.evIndexAddr, SX.evIndex, SX.evFill, SX.evBuild, SX.szs, SX.cellsV, SX.evNew, SX.evStore, SX.spliceL, SX.SV.cells, SX.evConv, SX.evSlice, SX.bnd, SX.evNil, SX.evUn, SX.evPick, SX.pickOpd, SX.popTo, SX.cnd, SX.env0, SX.TD.isAgg, SX.TD.isIface, SX.tails, SX.NotAgg, SX.evLookup, SX.evConvH, SX.evPtrEq, SX.isCells, SX.thaw, SX.frz, SX.fixB, SX.rootIx, SX.Froz, SX.frzStep, SX.fork, Go.Value.cells, Go.undef, cfg23]
      refine ⟨by (unfold SX.Ob; first | trivial | omega | ((try simp only [SX.inK]); (try simp [SX.den, SX.IsU8, SX.AllP, *]); (try omega))), ?_⟩
      intro a8 w8 hr8 _
      exact post_rnd (L.length - (k + 1)) (by omega) ⟨k + 1, rfl, hlt, fun j hj => (by
        rcases Nat.lt_or_ge j k with h | h
        · exact hs j h
        · obtain rfl : j = k := by omega
          rw [hx, hy]; exact hyes rfl), hr8.re (by simp [envTo, SX.look, den]) trivial rfl rfl⟩
  · obtain rfl : k = L.length := by omega
    refine seg cfg23_ok mixed PanicFree.body 1000 [false] [] hr2 (by first | trivial | exact HpRep.nil | assumption) (by kernel_rfl) fun s_ hs_ => ?_
    simp (maxSteps := 10000000) [SX.vc, SX.stop, SX.contS, SX.contB, SX.contW, SX.contR, SX.contD, SX.sxStep, SX.stepPure, SX.stepNew, SX.stepStore, SX.stepKeep, SX.guardIx, SX.evOp, SX.opd, SX.opds, SX.optOpd, SX.look, SX.putS, SX.gobs, SX.AllP, SX.leave, SX.lookC, SX.lookB, SX.lookT, SX.lookN, SX.findK, SX.evBuiltin, SX.ints, SX.foldI, SX.evBin, SX.evInt, SX.evStr, SX.evEq, SX.arith, SX.evLoad, SX.shapeUp, SX.evFieldAddr, SX.evField, SX.evIndexAddr, SX.evIndex, SX.evFill, SX.evBuild, SX.szs, SX.cellsV, SX.evNew, SX.evStore, SX.spliceL, SX.SV.cells, SX.evConv, SX.evSlice, SX.bnd, SX.evNil, SX.evUn, SX.evPick, SX.pickOpd, SX.popTo, SX.cnd, SX.env0, SX.TD.isAgg, SX.TD.isIface, SX.tails, SX.NotAgg, SX.evLookup, SX.evConvH, SX.evPtrEq, SX.isCells, SX.thaw, SX.frz, SX.fixB, SX.rootIx, SX.Froz, SX.frzStep, SX.fork, Go.Value.cells, Go.undef, cfg23]
    refine ⟨by (unfold SX.Ob; first | trivial | omega | ((try simp only [SX.inK]); (try simp [SX.den, SX.IsU8, SX.AllP, *]); (try omega))), ?_⟩
    intro a3 w3 hr3 _
    exact post_retn (end1 hr3 rfl rfl ⟨true, rfl, fun _ => ⟨hl, hs⟩, hr3.keeps.toBelow⟩).1

/-- A list of which all may be read, its messages too. -/
def RdF (P : Nat → Prop) (w : World) (v : Value) (L : List Sen) : Prop := RdD P w v L ∧ ∀ s ∈ L, GoodA P w s.S
theorem RdF.keep {P : Nat → Prop} {w w' : World} {v : Value} {L : List Sen} {M : List Nat} (h : RdF P w v L) (hk : KeepsTo w M w') (hM : ∀ x ∈ M, ¬ P x) : RdF P w' v L := ⟨h.1.keep hk hM, fun s hs x hx => ⟨(h.2 s hs x hx).1.keep hk hM, (h.2 s hs x hx).2⟩⟩
theorem RdF.below {P : Nat → Prop} {w w' : World} {v : Value} {L : List Sen} (h : RdF P w v L) (hb : Below w.heap.size w w') : RdF P w' v L := h.keep (KeepsTo.below hb []) (by simp)

set_option maxRecDepth 100000 in
set_option maxHeartbeats 16000000 in
/-- Same: if it says yes, the lists are alike. -/
theorem same_ok {P P' : Nat → Prop} (w : World) (v v' : Value) (L M : List Sen) (hL : RdF P w v L) (hM : RdF P' w v' M) (hn : L.length ≤ 1000000000000000) (hn' : M.length ≤ 1000000000000000) (ll : ∀ s ∈ L, s.S.length ≤ 1000000) (lm : ∀ s ∈ M, s.S.length ≤ 1000000) : Calls Try.prog 14 (denL [.v v, .v v']).toArray w (YesR w (L.length = M.length ∧ ∀ j, j < L.length → Al23 (nth sen0 L j) (nth sen0 M j))) := by
  refine enter (F := frame0 w) Try.func14 rfl [.v v, .v v'] [] (by simp [Try.f14]) trivial (keeps0 w) fun a hr => ?_
  refine seg cfg14_ok mixed PanicFree.body 1000 [] [] hr (by first | trivial | exact HpRep.nil | assumption) (by kernel_rfl) fun s_ hs_ => ?_
  simp (maxSteps := 10000000) [SX.vc, SX.stop, SX.contS, SX.contB, SX.contW, SX.contR, SX.contD, SX.sxStep, SX.stepPure, SX.stepNew, SX.stepStore, SX.stepKeep, SX.guardIx, SX.evOp, SX.opd, SX.opds, SX.optOpd, SX.look, SX.putS, SX.gobs, SX.AllP, SX.leave, SX.lookC, SX.lookB, SX.lookT, SX.lookN, SX.findK, SX.evBuiltin, SX.ints, SX.foldI, SX.evBin, SX.evInt, SX.evStr, SX.evEq, SX.arith, SX.evLoad, SX.shapeUp, SX.evFieldAddr, SX.evField, SX.evIndexAddr, SX.evIndex, SX.evFill, SX.evBuild, SX.szs, SX.cellsV, SX.evNew, SX.evStore, SX.spliceL, SX.SV.cells, SX.evConv, SX.evSlice, SX.bnd, SX.evNil, SX.evUn, SX.evPick, SX.pickOpd, SX.popTo, SX.cnd, SX.env0, SX.TD.isAgg, SX.TD.isIface, SX.tails, SX.NotAgg, SX.evLookup, SX.evConvH, SX.evPtrEq, SX.isCells, SX.thaw, SX.frz, SX.fixB, SX.rootIx, SX.Froz, SX.frzStep, SX.fork, Go.Value.cells, Go.undef, cfg14, Try.f14]
  refine ⟨by (unfold SX.Ob; first | trivial | omega | ((try simp only [SX.inK]); (try simp [SX.den, SX.IsU8, SX.AllP, *]); (try omega))), ?_⟩
  intro a1 w1 hr1 _
  refine post_call 23 [.v v, .v v', .fn (.func 24) [] []] hr1 (by first | exact wanted_none rfl | exact wanted_zero (hr1.env.same rfl rfl rfl rfl) rfl (by simp) | exact wanted_zero (hr1.env.same rfl rfl rfl rfl) rfl (by simp [*])) rfl (callable 23 Try.func23) (eqf23_ok w1 v v' L M (hL.1.1.below hr1.keeps.toBelow) (hM.1.1.below hr1.keeps.toBelow) hn hn' (fun w' x y hb hx hy => c24_ok w' x y (((hL.1.2 x hx).below hr1.keeps.toBelow).below hb) (((hM.1.2 y hy).below hr1.keeps.toBelow).below hb) (ll x hx) (lm y hy) (((hL.2 x hx).below hr1.keeps.toBelow).below hb) (((hM.2 y hy).below hr1.keeps.toBelow).below hb))) ?_
  rintro e2 w2 ⟨b, rfl, hyes, hb2⟩
  refine ⟨_, rfl, ?_⟩
  have h2 := hr1.ret hb2 7 (.v (.bool b)) rfl _ (hr1.all.below hb2) (by simp) rfl
  refine seg cfg14_ok mixed PanicFree.body 1000 [] [] h2 (by first | trivial | exact HpRep.nil | assumption) (by kernel_rfl) fun s_ hs_ => ?_
  simp (maxSteps := 10000000) [SX.vc, SX.stop, SX.contS, SX.contB, SX.contW, SX.contR, SX.contD, SX.sxStep, SX.stepPure, SX.stepNew, SX.stepStore, SX.stepKeep, SX.guardIx, SX.evOp, SX.opd, SX.opds, SX.optOpd, SX.look, SX.putS, SX.gobs, SX.AllP, SX.leave, SX.lookC, SX.lookB, SX.lookT, SX.lookN, SX.findK, SX.evBuiltin, SX.ints, SX.foldI, SX.evBin, SX.evInt, SX.evStr, SX.evEq, SX.arith, SX.evLoad, SX.shapeUp, SX.evFieldAddr, SX.evField, SX.evIndexAddr, SX.evIndex, SX.evFill, SX.evBuild, SX.szs, SX.cellsV, SX.evNew, SX.evStore, SX.spliceL, SX.SV.cells, SX.evConv, SX.evSlice, SX.bnd, SX.evNil, SX.evUn, SX.evPick, SX.pickOpd, SX.popTo, SX.cnd, SX.env0, SX.TD.isAgg, SX.TD.isIface, SX.tails, SX.NotAgg, SX.evLookup, SX.evConvH, SX.evPtrEq, SX.isCells, SX.thaw, SX.frz, SX.fixB, SX.rootIx, SX.Froz, SX.frzStep, SX.fork, Go.Value.cells, Go.undef, cfg14]
  refine ⟨by (unfold SX.Ob; first | trivial | omega | ((try simp only [SX.inK]); (try simp [SX.den, SX.IsU8, SX.AllP, *]); (try omega))), ?_⟩
  intro a3 w3 hr3 _
  exact post_retn (end1 hr3 rfl rfl ⟨b, rfl, hyes, hr3.keeps.toBelow⟩).1
end Go.Proofs
