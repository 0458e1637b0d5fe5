/- Live: LiveCounts walked. -/
import Derived.Test.YtnmjdelnllchdaaDYa
import Derived.Test.YtnmjdelnllchdaaDJ
namespace Go.Proofs
set_option linter.unusedVariables false
set_option linter.unusedSimpArgs false
set_option linter.unusedSectionVars false
open Go Go.SX Go.RowKit

theorem callable7 (n : Nat) {fn : Func} (h : Try.prog.funcs[n]? = some fn) (h2 : (fn.name == "runtime.NumGoroutine") = false := by kernel_rfl) (h3 : fn.body.isNone = false := by kernel_rfl) : Callable Try.prog n := callable n h h2 h3

/-- The loop over zones. -/
def OutLoop (w : World) (L : List Ext) (C : List Int) (z : Nat) (v vc : Value) (m : Nat) (a : Act) (w' : World) : Prop :=
  ∃ k : Nat, m = z - k ∧ k ≤ z ∧ RdI (fun _ => True) w' vc C ∧ RepX (frame0 w) ⟨[(55, 0, .v (.int .i64 k)), (54, 0, .v (.int .i64 z)), (53, 0, .v vc), (8, 0, .v (.int .i64 (totE L k))), (5, 0, .v (.bool true)), (0, 0, .v v), (1, 0, .v (.int .i64 z))], [], 0, 0, 185, [], [], []⟩ a w'
/-- The loop over what a zone has. -/
def InnLoop (wR : World) (L M : List Ext) (k : Nat) (n : Int) (z : Nat) (v vc vm : Value) (m : Nat) (a : Act) (w' : World) : Prop :=
  ∃ j : Nat, m = M.length - j ∧ j ≤ M.length ∧ RdE (fun _ => True) w' vm M ∧ RepX (frameAt wR []) ⟨[(68, 0, .v (.int .i64 j)), (67, 0, .v (.int .i64 M.length)), (66, 0, .v vm), (11, 0, .v vm), (12, 0, .v (.int .i64 0)), (13, 0, .v (.int .i64 (sumN (M.take j)))), (9, 0, .v (.int .i64 k)), (10, 0, .v (.int .i64 n)), (55, 0, .v (.int .i64 k)), (54, 0, .v (.int .i64 z)), (53, 0, .v vc), (8, 0, .v (.int .i64 (totE L k))), (5, 0, .v (.bool true)), (0, 0, .v v), (1, 0, .v (.int .i64 z))], [], 0, 0, 185, [], [], []⟩ a w'
/-- The loop over all. -/
def AllLoop (w : World) (L : List Ext) (z : Nat) (q : Int) (v : Value) (m : Nat) (a : Act) (w' : World) : Prop :=
  ∃ k : Nat, m = L.length - k ∧ k ≤ L.length ∧ RepX (frame0 w) ⟨[(161, 0, .v (.int .i64 k)), (160, 0, .v (.int .i64 L.length)), (159, 0, .v v), (18, 0, .v (.int .i64 (wantE z (L.take k)))), (8, 0, .v (.int .i64 q)), (5, 0, .v (.bool true)), (1, 0, .v (.int .i64 z))], [], 0, 0, 185, [], [], []⟩ a w'

set_option maxRecDepth 100000 in
set_option maxHeartbeats 16000000 in
/-- LiveCounts. -/
theorem counts7_ok (w : World) (v : Value) (L : List Ext) (o : Int) (hL : RdE (fun x => x < w.heap.size) w v L) (hn : L.length ≤ 1000000000000000) : Calls Try.prog 7 (denL [.v v, .v (.int .i64 o)]).toArray w (fun ev w' => ev = .returned (.bool true) ∧ Below w.heap.size w w') := by
  obtain ⟨ad, cp, rfl⟩ := hL.slice
  refine enter (F := frame0 w) Try.func7 rfl [.v (.slice ad L.length cp), .v (.int .i64 o)] [] (by simp [Try.f7]) trivial (keeps0 w) fun a hr => ?_
  refine seg cfg7_ok mixed PanicFree.body 1000 [] [] hr (by first | trivial | exact HpRep.nil | assumption) (by kernel_rfl) fun s_ hs_ => ?_
  simp (maxSteps := 10000000) [SX.vc, SX.stop, SX.contS, SX.contB, SX.contW, SX.contR, SX.contD, SX.sxStep, SX.stepPure, SX.stepNew, SX.stepStore, SX.stepKeep, SX.guardIx, SX.evOp, SX.opd, SX.opds, SX.optOpd, SX.look, SX.putS, SX.gobs, SX.AllP, SX.leave, SX.lookC, SX.lookB, SX.lookT, SX.lookN, SX.findK, SX.evBuiltin, SX.ints, SX.foldI, SX.evBin, SX.evInt, SX.evStr, SX.evEq, SX.arith, SX.evLoad, SX.shapeUp, SX.evFieldAddr, SX.evField, SX.evIndexAddr, SX.evIndex, SX.evFill, SX.evBuild, SX.szs, SX.cellsV, SX.evNew, SX.evStore, SX.spliceL, SX.SV.cells, SX.evConv, SX.evSlice, SX.bnd, SX.evNil, SX.evUn, SX.evPick, SX.pickOpd, SX.popTo, SX.cnd, SX.env0, SX.TD.isAgg, SX.TD.isIface, SX.tails, SX.NotAgg, SX.evLookup, SX.evConvH, SX.evPtrEq, SX.isCells, SX.thaw, SX.frz, SX.fixB, SX.rootIx, SX.Froz, SX.frzStep, SX.fork, Go.Value.cells, Go.undef, cfg7, Try.f7]
  refine ⟨by (unfold SX.Ob; first | trivial | omega | ((try simp only [SX.inK]); (try simp [SX.den, SX.IsU8, SX.AllP, *]); (try omega))), ?_⟩
  intro a1 w1 hr1 _
  refine post_call 8 [] hr1 (by first | exact wanted_none rfl | exact wanted_zero (hr1.env.same rfl rfl rfl rfl) rfl (by simp) | exact wanted_zero (hr1.env.same rfl rfl rfl rfl) rfl (by simp [*])) rfl (callable 8 Try.func8) (up_ok w1) ?_
  rintro e2 w2 ⟨rfl, hb2⟩
  refine ⟨_, rfl, ?_⟩
  have h2 := hr1.ret hb2 21 (.v (.bool true)) rfl _ (hr1.all.below hb2) (by simp) rfl
  by_cases hl : L.length ≤ 300
  rotate_left
  · have hl' : (300 : Int) < (L.length : Int) := by omega
    refine seg cfg7_ok mixed PanicFree.body 1000 [true] [(25, true), (30, true), (34, true)] h2 (by first | trivial | exact HpRep.nil | assumption) (by kernel_rfl) fun s_ hs_ => ?_
    simp (maxSteps := 10000000) [SX.vc, SX.stop, SX.contS, SX.contB, SX.contW, SX.contR, SX.contD, SX.sxStep, SX.stepPure, SX.stepNew, SX.stepStore, SX.stepKeep, SX.guardIx, SX.evOp, SX.opd, SX.opds, SX.optOpd, SX.look, SX.putS, SX.gobs, SX.AllP, SX.leave, SX.lookC, SX.lookB, SX.lookT, SX.lookN, SX.findK, SX.evBuiltin, SX.ints, SX.foldI, SX.evBin, SX.evInt, SX.evStr, SX.evEq, SX.arith, SX.evLoad, SX.shapeUp, SX.evFieldAddr, SX.evField, SX.evIndexAddr, SX.evIndex, SX.evFill, SX.evBuild, SX.szs, SX.cellsV, SX.evNew, SX.evStore, SX.spliceL, SX.SV.cells, SX.evConv, SX.evSlice, SX.bnd, SX.evNil, SX.evUn, SX.evPick, SX.pickOpd, SX.popTo, SX.cnd, SX.env0, SX.TD.isAgg, SX.TD.isIface, SX.tails, SX.NotAgg, SX.evLookup, SX.evConvH, SX.evPtrEq, SX.isCells, SX.thaw, SX.frz, SX.fixB, SX.rootIx, SX.Froz, SX.frzStep, SX.fork, Go.Value.cells, Go.undef, cfg7, hl']
    refine ⟨by (unfold SX.Ob; first | trivial | omega | ((try simp only [SX.inK]); (try simp [SX.den, SX.IsU8, SX.AllP, *]); (try omega))), ?_⟩
    intro a3 w3 hr3 _
    exact post_retn (end1 hr3 rfl rfl ⟨rfl, hr3.keeps.toBelow⟩).1
  have hl' : ¬ (300 : Int) < (L.length : Int) := by omega
  refine seg cfg7_ok mixed PanicFree.body 1000 [] [(25, false)] h2 (by first | trivial | exact HpRep.nil | assumption) (by kernel_rfl) fun s_ hs_ => ?_
  simp (maxSteps := 10000000) [SX.vc, SX.stop, SX.contS, SX.contB, SX.contW, SX.contR, SX.contD, SX.sxStep, SX.stepPure, SX.stepNew, SX.stepStore, SX.stepKeep, SX.guardIx, SX.evOp, SX.opd, SX.opds, SX.optOpd, SX.look, SX.putS, SX.gobs, SX.AllP, SX.leave, SX.lookC, SX.lookB, SX.lookT, SX.lookN, SX.findK, SX.evBuiltin, SX.ints, SX.foldI, SX.evBin, SX.evInt, SX.evStr, SX.evEq, SX.arith, SX.evLoad, SX.shapeUp, SX.evFieldAddr, SX.evField, SX.evIndexAddr, SX.evIndex, SX.evFill, SX.evBuild, SX.szs, SX.cellsV, SX.evNew, SX.evStore, SX.spliceL, SX.SV.cells, SX.evConv, SX.evSlice, SX.bnd, SX.evNil, SX.evUn, SX.evPick, SX.pickOpd, SX.popTo, SX.cnd, SX.env0, SX.TD.isAgg, SX.TD.isIface, SX.tails, SX.NotAgg, SX.evLookup, SX.evConvH, SX.evPtrEq, SX.isCells, SX.thaw, SX.frz, SX.fixB, SX.rootIx, SX.Froz, SX.frzStep, SX.fork, Go.Value.cells, Go.undef, cfg7, hl']
  refine ⟨by (unfold SX.Ob; first | trivial | omega | ((try simp only [SX.inK]); (try simp [SX.den, SX.IsU8, SX.AllP, *]); (try omega))), ?_⟩
  intro a3 w3 hr3 _
  refine post_call 15 [.v (.slice ad L.length cp)] hr3 (by first | exact wanted_none rfl | exact wanted_zero (hr3.env.same rfl rfl rfl rfl) rfl (by simp) | exact wanted_zero (hr3.env.same rfl rfl rfl rfl) rfl (by simp [*])) rfl (callable 15 Try.func15) (rcheck_ok w3 _ L (hL.below hr3.keeps.toBelow) (by omega)) ?_
  rintro e4 w4 ⟨rfl, hb4⟩
  refine ⟨_, rfl, ?_⟩
  have h4 := hr3.ret hb4 27 (.v (.int .i64 (chkE L))) rfl _ (hr3.all.below hb4) (by simp) rfl
  by_cases hC : Chk L
  rotate_left
  · have hc : chkE L = 1 := if_neg hC
    refine seg cfg7_ok mixed PanicFree.body 1000 [true] [(25, false), (30, true), (34, true)] h4 (by first | trivial | exact HpRep.nil | assumption) (by kernel_rfl) fun s_ hs_ => ?_
    simp (maxSteps := 10000000) [SX.vc, SX.stop, SX.contS, SX.contB, SX.contW, SX.contR, SX.contD, SX.sxStep, SX.stepPure, SX.stepNew, SX.stepStore, SX.stepKeep, SX.guardIx, SX.evOp, SX.opd, SX.opds, SX.optOpd, SX.look, SX.putS, SX.gobs, SX.AllP, SX.leave, SX.lookC, SX.lookB, SX.lookT, SX.lookN, SX.findK, SX.evBuiltin, SX.ints, SX.foldI, SX.evBin, SX.evInt, SX.evStr, SX.evEq, SX.arith, SX.evLoad, SX.shapeUp, SX.evFieldAddr, SX.evField, SX.evIndexAddr, SX.evIndex, SX.evFill, SX.evBuild, SX.szs, SX.cellsV, SX.evNew, SX.evStore, SX.spliceL, SX.SV.cells, SX.evConv, SX.evSlice, SX.bnd, SX.evNil, SX.evUn, SX.evPick, SX.pickOpd, SX.popTo, SX.cnd, SX.env0, SX.TD.isAgg, SX.TD.isIface, SX.tails, SX.NotAgg, SX.evLookup, SX.evConvH, SX.evPtrEq, SX.isCells, SX.thaw, SX.frz, SX.fixB, SX.rootIx, SX.Froz, SX.frzStep, SX.fork, Go.Value.cells, Go.undef, cfg7, hc]
    refine ⟨by (unfold SX.Ob; first | trivial | omega | ((try simp only [SX.inK]); (try simp [SX.den, SX.IsU8, SX.AllP, *]); (try omega))), ?_⟩
    intro a5 w5 hr5 _
    exact post_retn (end1 hr5 rfl rfl ⟨rfl, hr5.keeps.toBelow⟩).1
  have hc : chkE L = 0 := if_pos hC
  by_cases ho : o < 0
  · refine seg cfg7_ok mixed PanicFree.body 1000 [true] [(25, false), (30, false), (34, true)] h4 (by first | trivial | exact HpRep.nil | assumption) (by kernel_rfl) fun s_ hs_ => ?_
    simp (maxSteps := 10000000) [SX.vc, SX.stop, SX.contS, SX.contB, SX.contW, SX.contR, SX.contD, SX.sxStep, SX.stepPure, SX.stepNew, SX.stepStore, SX.stepKeep, SX.guardIx, SX.evOp, SX.opd, SX.opds, SX.optOpd, SX.look, SX.putS, SX.gobs, SX.AllP, SX.leave, SX.lookC, SX.lookB, SX.lookT, SX.lookN, SX.findK, SX.evBuiltin, SX.ints, SX.foldI, SX.evBin, SX.evInt, SX.evStr, SX.evEq, SX.arith, SX.evLoad, SX.shapeUp, SX.evFieldAddr, SX.evField, SX.evIndexAddr, SX.evIndex, SX.evFill, SX.evBuild, SX.szs, SX.cellsV, SX.evNew, SX.evStore, SX.spliceL, SX.SV.cells, SX.evConv, SX.evSlice, SX.bnd, SX.evNil, SX.evUn, SX.evPick, SX.pickOpd, SX.popTo, SX.cnd, SX.env0, SX.TD.isAgg, SX.TD.isIface, SX.tails, SX.NotAgg, SX.evLookup, SX.evConvH, SX.evPtrEq, SX.isCells, SX.thaw, SX.frz, SX.fixB, SX.rootIx, SX.Froz, SX.frzStep, SX.fork, Go.Value.cells, Go.undef, cfg7, hc, ho]
    refine ⟨by (unfold SX.Ob; first | trivial | omega | ((try simp only [SX.inK]); (try simp [SX.den, SX.IsU8, SX.AllP, *]); (try omega))), ?_⟩
    intro a5 w5 hr5 _
    exact post_retn (end1 hr5 rfl rfl ⟨rfl, hr5.keeps.toBelow⟩).1
  by_cases ho2 : 64 < o
  · refine seg cfg7_ok mixed PanicFree.body 1000 [true] [(25, false), (30, false), (34, false)] h4 (by first | trivial | exact HpRep.nil | assumption) (by kernel_rfl) fun s_ hs_ => ?_
    simp (maxSteps := 10000000) [SX.vc, SX.stop, SX.contS, SX.contB, SX.contW, SX.contR, SX.contD, SX.sxStep, SX.stepPure, SX.stepNew, SX.stepStore, SX.stepKeep, SX.guardIx, SX.evOp, SX.opd, SX.opds, SX.optOpd, SX.look, SX.putS, SX.gobs, SX.AllP, SX.leave, SX.lookC, SX.lookB, SX.lookT, SX.lookN, SX.findK, SX.evBuiltin, SX.ints, SX.foldI, SX.evBin, SX.evInt, SX.evStr, SX.evEq, SX.arith, SX.evLoad, SX.shapeUp, SX.evFieldAddr, SX.evField, SX.evIndexAddr, SX.evIndex, SX.evFill, SX.evBuild, SX.szs, SX.cellsV, SX.evNew, SX.evStore, SX.spliceL, SX.SV.cells, SX.evConv, SX.evSlice, SX.bnd, SX.evNil, SX.evUn, SX.evPick, SX.pickOpd, SX.popTo, SX.cnd, SX.env0, SX.TD.isAgg, SX.TD.isIface, SX.tails, SX.NotAgg, SX.evLookup, SX.evConvH, SX.evPtrEq, SX.isCells, SX.thaw, SX.frz, SX.fixB, SX.rootIx, SX.Froz, SX.frzStep, SX.fork, Go.Value.cells, Go.undef, cfg7, hc, ho, ho2]
    refine ⟨by (unfold SX.Ob; first | trivial | omega | ((try simp only [SX.inK]); (try simp [SX.den, SX.IsU8, SX.AllP, *]); (try omega))), ?_⟩
    intro a5 w5 hr5 _
    exact post_retn (end1 hr5 rfl rfl ⟨rfl, hr5.keeps.toBelow⟩).1
  obtain ⟨z, rfl⟩ : ∃ z : Nat, o = (z : Int) := ⟨o.toNat, by omega⟩
  have hz64 : z ≤ 64 := by omega
  refine seg cfg7_ok mixed PanicFree.body 1000 [false] [(25, false), (30, false), (34, false)] h4 (by first | trivial | exact HpRep.nil | assumption) (by kernel_rfl) fun s_ hs_ => ?_
  simp (maxSteps := 10000000) [SX.vc, SX.stop, SX.contS, SX.contB, SX.contW, SX.contR, SX.contD, SX.sxStep, SX.stepPure, SX.stepNew, SX.stepStore, SX.stepKeep, SX.guardIx, SX.evOp, SX.opd, SX.opds, SX.optOpd, SX.look, SX.putS, SX.gobs, SX.AllP, SX.leave, SX.lookC, SX.lookB, SX.lookT, SX.lookN, SX.findK, SX.evBuiltin, SX.ints, SX.foldI, SX.evBin, SX.evInt, SX.evStr, SX.evEq, SX.arith, SX.evLoad, SX.shapeUp, SX.evFieldAddr, SX.evField, SX.evIndexAddr, SX.evIndex, SX.evFill, SX.evBuild, SX.szs, SX.cellsV, SX.evNew, SX.evStore, SX.spliceL, SX.SV.cells, SX.evConv, SX.evSlice, SX.bnd, SX.evNil, SX.evUn, SX.evPick, SX.pickOpd, SX.popTo, SX.cnd, SX.env0, SX.TD.isAgg, SX.TD.isIface, SX.tails, SX.NotAgg, SX.evLookup, SX.evConvH, SX.evPtrEq, SX.isCells, SX.thaw, SX.frz, SX.fixB, SX.rootIx, SX.Froz, SX.frzStep, SX.fork, Go.Value.cells, Go.undef, cfg7, hc, ho, ho2]
  refine ⟨by (unfold SX.Ob; first | trivial | omega | ((try simp only [SX.inK]); (try simp [SX.den, SX.IsU8, SX.AllP, *]); (try omega))), ?_⟩
  intro a5 w5 hr5 _
  refine post_call 16 [.v (.slice ad L.length cp), .v (.int .i64 z)] hr5 (by first | exact wanted_none rfl | exact wanted_zero (hr5.env.same rfl rfl rfl rfl) rfl (by simp) | exact wanted_zero (hr5.env.same rfl rfl rfl rfl) rfl (by simp [*])) rfl (callable 16 Try.func16) (Count_ok w5 _ L z (hL.below hr5.keeps.toBelow) (by omega) hC hz64) ?_
  rintro e6 w6 ⟨vc, rfl, hO6, hb6⟩
  refine ⟨_, rfl, ?_⟩
  have h6 := hr5.ret hb6 42 (.tu [.v vc, .v (.int .i64 0)]) rfl _ (hr5.all.below hb6) (by simp) rfl
  obtain ⟨C, hCe⟩ : ∃ C, cnts L z = C := ⟨_, rfl⟩
  have hCl : C.length = z := by rw [← hCe, cnts_len]
  have hCn : ∀ j, j < z → nth (0 : Int) C j = cntE L j := fun j hj => by rw [← hCe, nth_cnts hj]
  rw [hCe] at hO6
  obtain ⟨adc, cpc, hvc⟩ := hO6.slice
  rw [hCl] at hvc
  subst hvc
  refine seg cfg7_ok mixed PanicFree.body 1000 [false] [(47, false)] h6.rebase (by first | trivial | exact HpRep.nil | assumption) (by kernel_rfl) fun s_ hs_ => ?_
  simp (maxSteps := 10000000) [SX.vc, SX.stop, SX.contS, SX.contB, SX.contW, SX.contR, SX.contD, SX.sxStep, SX.stepPure, SX.stepNew, SX.stepStore, SX.stepKeep, SX.guardIx, SX.evOp, SX.opd, SX.opds, SX.optOpd, SX.look, SX.putS, SX.gobs, SX.AllP, SX.leave, SX.lookC, SX.lookB, SX.lookT, SX.lookN, SX.findK, SX.evBuiltin, SX.ints, SX.foldI, SX.evBin, SX.evInt, SX.evStr, SX.evEq, SX.arith, SX.evLoad, SX.shapeUp, SX.evFieldAddr, SX.evField, SX.evIndexAddr, SX.evIndex, SX.evFill, SX.evBuild, SX.szs, SX.cellsV, SX.evNew, SX.evStore, SX.spliceL, SX.SV.cells, SX.evConv, SX.evSlice, SX.bnd, SX.evNil, SX.evUn, SX.evPick, SX.pickOpd, SX.popTo, SX.cnd, SX.env0, SX.TD.isAgg, SX.TD.isIface, SX.tails, SX.NotAgg, SX.evLookup, SX.evConvH, SX.evPtrEq, SX.isCells, SX.thaw, SX.frz, SX.fixB, SX.rootIx, SX.Froz, SX.frzStep, SX.fork, Go.Value.cells, Go.undef, cfg7]
  refine ⟨by (unfold SX.Ob; first | trivial | omega | ((try simp only [SX.inK]); (try simp [SX.den, SX.IsU8, SX.AllP, *]); (try omega))), ?_⟩
  intro a7 w7 hr7' _
  have hO7 := hO6.keep hr7'.keeps (by simp [frameAt, mutB])
  have hr7 := h6.unbase hr7'
  have hM := hC.may
  refine post_loop (OutLoop w L C z (.slice ad L.length cp) (.slice adc z cpc)) z ⟨0, rfl, by omega, hO7.mono fun _ _ _ => trivial, hr7.re (by simp [envTo, SX.look, totE]) trivial rfl rfl⟩ ?_
  rintro m a8 w8 ⟨k, rfl, hk, hC8, hr8⟩
  have hL8 : RdE (fun x => x < w.heap.size) w8 (.slice ad L.length cp) L := hL.below hr8.keeps.toBelow
  by_cases hlt : k < z
  · obtain ⟨b, o0, cap, u, fz, hP, hv, hrep⟩ := hC8.opn (show k < C.length by omega)
    rw [hCl] at hv hrep
    cases hv
    obtain ⟨n, hx⟩ : ∃ x, nth (0 : Int) C k = x := ⟨_, rfl⟩
    have hnk : n = cntE L k := by rw [← hx, hCn k hlt]
    have h9 := (hr8.rebase.top 53 (.sl 0 b o0 0 z cpc 1) rfl (by simp [den])).see _ (HpAll.one hrep)
    refine seg cfg7_ok mixed PanicFree.body 1000 [true] [] h9 (by first | trivial | exact HpRep.nil | assumption) (by kernel_rfl) fun s_ hs_ => ?_
    simp (maxSteps := 10000000) [SX.vc, SX.stop, SX.contS, SX.contB, SX.contW, SX.contR, SX.contD, SX.sxStep, SX.stepPure, SX.stepNew, SX.stepStore, SX.stepKeep, SX.guardIx, SX.evOp, SX.opd, SX.opds, SX.optOpd, SX.look, SX.putS, SX.gobs, SX.AllP, SX.leave, SX.lookC, SX.lookB, SX.lookT, SX.lookN, SX.findK, SX.evBuiltin, SX.ints, SX.foldI, SX.evBin, SX.evInt, SX.evStr, SX.evEq, SX.arith, SX.evLoad, SX.shapeUp, SX.evFieldAddr, SX.evField, SX.evIndexAddr, SX.evIndex, SX.evFill, SX.evBuild, SX.szs, SX.cellsV, SX.evNew, SX.evStore, SX.spliceL, SX.SV.cells, SX.evConv, SX.evSlice, SX.bnd, SX.evNil, SX.evUn, SX.evPick, SX.pickOpd, SX.popTo, SX.cnd, SX.env0, SX.TD.isAgg, SX.TD.isIface, SX.tails, SX.NotAgg, SX.evLookup, SX.evConvH, SX.evPtrEq, SX.isCells, SX.thaw, SX.frz, SX.fixB, SX.rootIx, SX.Froz, SX.frzStep, SX.fork, Go.Value.cells, Go.undef, cfg7, intC, hx]
    refine ⟨by (unfold SX.Ob; first | trivial | omega | ((try simp only [SX.inK]); (try simp [SX.den, SX.IsU8, SX.AllP, *]); (try omega))), ?_⟩
    intro a10 w10 hr10 _
    refine post_call 19 [.v (.slice ad L.length cp), .v (.int .i64 k)] hr10 (by first | exact wanted_none rfl | exact wanted_zero (hr10.env.same rfl rfl rfl rfl) rfl (by simp) | exact wanted_zero (hr10.env.same rfl rfl rfl rfl) rfl (by simp [*])) rfl (callable 19 Try.func19) (In_ok w10 _ L k (hL8.keep hr10.keeps (by simp [frameAt, mutB])) (by omega) hC (by omega)) ?_
    rintro e11 w11 ⟨vm, M, rfl, hMp, hMs, hO11, hb11⟩
    refine ⟨_, rfl, ?_⟩
    have h11 := hr10.ret hb11 63 (.tu [.v vm, .v (.int .i64 0)]) rfl _ (hr10.all.below hb11) (by simp) rfl
    obtain ⟨adm, cpm, hvm⟩ := hO11.slice
    subst hvm
    refine seg cfg7_ok mixed PanicFree.body 1000 [] [] h11.rebase (by first | trivial | exact HpRep.nil | assumption) (by kernel_rfl) fun s_ hs_ => ?_
    simp (maxSteps := 10000000) [SX.vc, SX.stop, SX.contS, SX.contB, SX.contW, SX.contR, SX.contD, SX.sxStep, SX.stepPure, SX.stepNew, SX.stepStore, SX.stepKeep, SX.guardIx, SX.evOp, SX.opd, SX.opds, SX.optOpd, SX.look, SX.putS, SX.gobs, SX.AllP, SX.leave, SX.lookC, SX.lookB, SX.lookT, SX.lookN, SX.findK, SX.evBuiltin, SX.ints, SX.foldI, SX.evBin, SX.evInt, SX.evStr, SX.evEq, SX.arith, SX.evLoad, SX.shapeUp, SX.evFieldAddr, SX.evField, SX.evIndexAddr, SX.evIndex, SX.evFill, SX.evBuild, SX.szs, SX.cellsV, SX.evNew, SX.evStore, SX.spliceL, SX.SV.cells, SX.evConv, SX.evSlice, SX.bnd, SX.evNil, SX.evUn, SX.evPick, SX.pickOpd, SX.popTo, SX.cnd, SX.env0, SX.TD.isAgg, SX.TD.isIface, SX.tails, SX.NotAgg, SX.evLookup, SX.evConvH, SX.evPtrEq, SX.isCells, SX.thaw, SX.frz, SX.fixB, SX.rootIx, SX.Froz, SX.frzStep, SX.fork, Go.Value.cells, Go.undef, cfg7]
    refine ⟨by (unfold SX.Ob; first | trivial | omega | ((try simp only [SX.inK]); (try simp [SX.den, SX.IsU8, SX.AllP, *]); (try omega))), ?_⟩
    intro a12 w12 hr12' _
    have hO12 := hO11.keep hr12'.keeps (by simp [frameAt, mutB])
    have hr12 := h11.unbase hr12'
    have hMl : M.length ≤ 1000 := by have := len_in hMp; omega
    have hMm : ∀ e ∈ M, May e := fun e he => hM e (mem_in hMp he).1
    refine post_loop (InnLoop w8 L M k n z (.slice ad L.length cp) (.slice (some ⟨b, o0, none⟩) z cpc) (.slice adm M.length cpm)) M.length ⟨0, rfl, by omega, hO12.mono fun _ _ _ => trivial, hr12.re (by simp [envTo, SX.look, sumN, den]) trivial rfl rfl⟩ ?_
    rintro m a13 w13 ⟨j, rfl, hj, hM13, hr13⟩
    by_cases hjl : j < M.length
    · obtain ⟨b2, o2, cap2, u2, fz2, hP2, hv2, hrep2⟩ := hM13.opn hjl
      cases hv2
      obtain ⟨x, hxm⟩ : ∃ x, nth ext0 M j = x := ⟨_, rfl⟩
      have hxM : x ∈ M := by rw [← hxm]; exact nth_mem hjl
      have hxL := mem_in hMp hxM
      have hxy := hM x hxL.1
      have hst := sumN_step hjl hxm
      have hsb := sumN_bound (take_may hMm j)
      have hsl : (M.take j).length ≤ 1000 := by rw [List.length_take]; omega
      have hlt2 : 0 < j → _ := fun h0 => in_lt hC hMp hMs h0 hjl
      rw [hxm] at hlt2
      have hat := at_own hC hxL.1
      obtain ⟨s, hs⟩ : ∃ s, sumN (M.take j) = s := ⟨_, rfl⟩
      rw [hs] at hst hsb hr13
      obtain ⟨x0, x1, x2, x3, x4⟩ := x
      unfold May at hxy
      dsimp only at hxL hxy hst hlt2 hat
      obtain ⟨hxL, rfl⟩ := hxL
      have h14 := ((hr13.rebase.top 66 (.sl 0 b2 o2 0 M.length cpm 5) rfl (by simp [den])).top 11 (.sl 0 b2 o2 0 M.length cpm 5) rfl (by simp [den])).see _ (HpAll.one hrep2)
      obtain ⟨⟨f0, f1, f2, f3, f4⟩, hf, hfz, hfo, hfv⟩ := hat
      dsimp only at hfz hfo hfv
      obtain rfl : f4 = x4 := hfo
      obtain rfl : f2 = x2 := hfv
      obtain rfl : f3 = (k : Int) := hfz
      have hAt : ∀ w', RdE (fun x => x < w.heap.size) w' (.slice ad L.length cp) L → Calls Try.prog 20 (denL [.v (.slice ad L.length cp), .v (.int .i64 x0)]).toArray w' (AtR w' (some ⟨f0, f1, f2, k, f4⟩)) := fun w' h => by
        rw [← hf]
        exact At_ok w' _ L x0 h (by omega)
      clear hf
      rcases Nat.eq_zero_or_pos j with hj0 | hj0
      · have hgt : ¬ (0 : Int) < (j : Int) := by omega
        refine seg cfg7_ok mixed PanicFree.body 1000 [true, false] [(81, false), (84, false)] h14 (by first | trivial | exact HpRep.nil | assumption) (by kernel_rfl) fun s_ hs_ => ?_
        simp (maxSteps := 10000000) [SX.vc, SX.stop, SX.contS, SX.contB, SX.contW, SX.contR, SX.contD, SX.sxStep, SX.stepPure, SX.stepNew, SX.stepStore, SX.stepKeep, SX.guardIx, SX.evOp, SX.opd, SX.opds, SX.optOpd, SX.look, SX.putS, SX.gobs, SX.AllP, SX.leave, SX.lookC, SX.lookB, SX.lookT, SX.lookN, SX.findK, SX.evBuiltin, SX.ints, SX.foldI, SX.evBin, SX.evInt, SX.evStr, SX.evEq, SX.arith, SX.evLoad, SX.shapeUp, SX.evFieldAddr, SX.evField, SX.evIndexAddr, SX.evIndex, SX.evFill, SX.evBuild, SX.szs, SX.cellsV, SX.evNew, SX.evStore, SX.spliceL, SX.SV.cells, SX.evConv, SX.evSlice, SX.bnd, SX.evNil, SX.evUn, SX.evPick, SX.pickOpd, SX.popTo, SX.cnd, SX.env0, SX.TD.isAgg, SX.TD.isIface, SX.tails, SX.NotAgg, SX.evLookup, SX.evConvH, SX.evPtrEq, SX.isCells, SX.thaw, SX.frz, SX.fixB, SX.rootIx, SX.Froz, SX.frzStep, SX.fork, Go.Value.cells, Go.undef, cfg7, extC, hxm, hgt]
        refine ⟨by (unfold SX.Ob; first | trivial | omega | ((try simp only [SX.inK]); (try simp [SX.den, SX.IsU8, SX.AllP, *]); (try omega))), ?_⟩
        intro a15 w15 hr15 _
        refine post_call 20 [.v (.slice ad L.length cp), .v (.int .i64 x0)] hr15 (by first | exact wanted_none rfl | exact wanted_zero (hr15.env.same rfl rfl rfl rfl) rfl (by simp) | exact wanted_zero (hr15.env.same rfl rfl rfl rfl) rfl (by simp [*])) rfl (callable 20 Try.func20) (hAt w15 ((hL8.keep hr13.keeps (by simp [frameAt, mutB])).keep hr15.keeps (by simp [frameAt, mutB]))) ?_
        rintro e16 w16 ⟨rfl, hb16⟩
        refine ⟨_, rfl, ?_⟩
        have h16 := hr15.ret hb16 122 (.tu [.ag (extC ⟨f0, f1, f2, k, f4⟩), .v (.bool true)]) rfl _ (hr15.all.below hb16) (by simp) rfl
        refine seg cfg7_ok mixed PanicFree.body 1000 [false] [(127, false), (133, false), (140, false)] h16 (by first | trivial | exact HpRep.nil | assumption) (by kernel_rfl) fun s_ hs_ => ?_
        simp (maxSteps := 10000000) [SX.vc, SX.stop, SX.contS, SX.contB, SX.contW, SX.contR, SX.contD, SX.sxStep, SX.stepPure, SX.stepNew, SX.stepStore, SX.stepKeep, SX.guardIx, SX.evOp, SX.opd, SX.opds, SX.optOpd, SX.look, SX.putS, SX.gobs, SX.AllP, SX.leave, SX.lookC, SX.lookB, SX.lookT, SX.lookN, SX.findK, SX.evBuiltin, SX.ints, SX.foldI, SX.evBin, SX.evInt, SX.evStr, SX.evEq, SX.arith, SX.evLoad, SX.shapeUp, SX.evFieldAddr, SX.evField, SX.evIndexAddr, SX.evIndex, SX.evFill, SX.evBuild, SX.szs, SX.cellsV, SX.evNew, SX.evStore, SX.spliceL, SX.SV.cells, SX.evConv, SX.evSlice, SX.bnd, SX.evNil, SX.evUn, SX.evPick, SX.pickOpd, SX.popTo, SX.cnd, SX.env0, SX.TD.isAgg, SX.TD.isIface, SX.tails, SX.NotAgg, SX.evLookup, SX.evConvH, SX.evPtrEq, SX.isCells, SX.thaw, SX.frz, SX.fixB, SX.rootIx, SX.Froz, SX.frzStep, SX.fork, Go.Value.cells, Go.undef, cfg7, extC]
        refine ⟨by (unfold SX.Ob; first | trivial | omega | ((try simp only [SX.inK]); (try simp [SX.den, SX.IsU8, SX.AllP, *]); (try omega))), ?_⟩
        intro a17 w17 hr17 _
        have hr18 := hr13.unbase hr17
        exact post_rnd (M.length - (j + 1)) (by omega) ⟨j + 1, rfl, by omega, hM13.keep hr17.keeps (by simp [frameAt, mutB]), hr18.re (by rw [hst]; simp [envTo, SX.look, den]) trivial rfl rfl⟩
      · have hgt : (0 : Int) < (j : Int) := by omega
        have hlt3 := hlt2 hj0
        obtain ⟨y, hy⟩ : ∃ y, nth ext0 M (j - 1) = y := ⟨_, rfl⟩
        rw [hy] at hlt3
        obtain ⟨y0, y1, y2, y3, y4⟩ := y
        dsimp only at hlt3
        have ej : ((j : Int) - 1).toNat = j - 1 := by omega
        rcases hlt3 with h1 | ⟨h1, h2⟩
        · have h3 : ¬ f4 < y4 := by omega
          have h4 : ¬ y4 = f4 := by omega
          refine seg cfg7_ok mixed PanicFree.body 1000 [true, false] [(81, false), (84, true), (94, false), (104, false)] h14 (by first | trivial | exact HpRep.nil | assumption) (by kernel_rfl) fun s_ hs_ => ?_
          simp (maxSteps := 10000000) [SX.vc, SX.stop, SX.contS, SX.contB, SX.contW, SX.contR, SX.contD, SX.sxStep, SX.stepPure, SX.stepNew, SX.stepStore, SX.stepKeep, SX.guardIx, SX.evOp, SX.opd, SX.opds, SX.optOpd, SX.look, SX.putS, SX.gobs, SX.AllP, SX.leave, SX.lookC, SX.lookB, SX.lookT, SX.lookN, SX.findK, SX.evBuiltin, SX.ints, SX.foldI, SX.evBin, SX.evInt, SX.evStr, SX.evEq, SX.arith, SX.evLoad, SX.shapeUp, SX.evFieldAddr, SX.evField, SX.evIndexAddr, SX.evIndex, SX.evFill, SX.evBuild, SX.szs, SX.cellsV, SX.evNew, SX.evStore, SX.spliceL, SX.SV.cells, SX.evConv, SX.evSlice, SX.bnd, SX.evNil, SX.evUn, SX.evPick, SX.pickOpd, SX.popTo, SX.cnd, SX.env0, SX.TD.isAgg, SX.TD.isIface, SX.tails, SX.NotAgg, SX.evLookup, SX.evConvH, SX.evPtrEq, SX.isCells, SX.thaw, SX.frz, SX.fixB, SX.rootIx, SX.Froz, SX.frzStep, SX.fork, Go.Value.cells, Go.undef, cfg7, extC, hxm, hgt, ej, hy, h3, h4]
          refine ⟨by (unfold SX.Ob; first | trivial | omega | ((try simp only [SX.inK]); (try simp [SX.den, SX.IsU8, SX.AllP, *]); (try omega))), ?_⟩
          intro a15 w15 hr15 _
          refine post_call 20 [.v (.slice ad L.length cp), .v (.int .i64 x0)] hr15 (by first | exact wanted_none rfl | exact wanted_zero (hr15.env.same rfl rfl rfl rfl) rfl (by simp) | exact wanted_zero (hr15.env.same rfl rfl rfl rfl) rfl (by simp [*])) rfl (callable 20 Try.func20) (hAt w15 ((hL8.keep hr13.keeps (by simp [frameAt, mutB])).keep hr15.keeps (by simp [frameAt, mutB]))) ?_
          rintro e16 w16 ⟨rfl, hb16⟩
          refine ⟨_, rfl, ?_⟩
          have h16 := hr15.ret hb16 122 (.tu [.ag (extC ⟨f0, f1, f2, k, f4⟩), .v (.bool true)]) rfl _ (hr15.all.below hb16) (by simp) rfl
          refine seg cfg7_ok mixed PanicFree.body 1000 [false] [(127, false), (133, false), (140, false)] h16 (by first | trivial | exact HpRep.nil | assumption) (by kernel_rfl) fun s_ hs_ => ?_
          simp (maxSteps := 10000000) [SX.vc, SX.stop, SX.contS, SX.contB, SX.contW, SX.contR, SX.contD, SX.sxStep, SX.stepPure, SX.stepNew, SX.stepStore, SX.stepKeep, SX.guardIx, SX.evOp, SX.opd, SX.opds, SX.optOpd, SX.look, SX.putS, SX.gobs, SX.AllP, SX.leave, SX.lookC, SX.lookB, SX.lookT, SX.lookN, SX.findK, SX.evBuiltin, SX.ints, SX.foldI, SX.evBin, SX.evInt, SX.evStr, SX.evEq, SX.arith, SX.evLoad, SX.shapeUp, SX.evFieldAddr, SX.evField, SX.evIndexAddr, SX.evIndex, SX.evFill, SX.evBuild, SX.szs, SX.cellsV, SX.evNew, SX.evStore, SX.spliceL, SX.SV.cells, SX.evConv, SX.evSlice, SX.bnd, SX.evNil, SX.evUn, SX.evPick, SX.pickOpd, SX.popTo, SX.cnd, SX.env0, SX.TD.isAgg, SX.TD.isIface, SX.tails, SX.NotAgg, SX.evLookup, SX.evConvH, SX.evPtrEq, SX.isCells, SX.thaw, SX.frz, SX.fixB, SX.rootIx, SX.Froz, SX.frzStep, SX.fork, Go.Value.cells, Go.undef, cfg7, extC]
          refine ⟨by (unfold SX.Ob; first | trivial | omega | ((try simp only [SX.inK]); (try simp [SX.den, SX.IsU8, SX.AllP, *]); (try omega))), ?_⟩
          intro a17 w17 hr17 _
          have hr18 := hr13.unbase hr17
          exact post_rnd (M.length - (j + 1)) (by omega) ⟨j + 1, rfl, by omega, hM13.keep hr17.keeps (by simp [frameAt, mutB]), hr18.re (by rw [hst]; simp [envTo, SX.look, den]) trivial rfl rfl⟩
        · subst h1
          have h3 : ¬ x0 ≤ y0 := by omega
          refine seg cfg7_ok mixed PanicFree.body 1000 [true, false] [(81, false), (84, true), (94, false), (104, true)] h14 (by first | trivial | exact HpRep.nil | assumption) (by kernel_rfl) fun s_ hs_ => ?_
          simp (maxSteps := 10000000) [SX.vc, SX.stop, SX.contS, SX.contB, SX.contW, SX.contR, SX.contD, SX.sxStep, SX.stepPure, SX.stepNew, SX.stepStore, SX.stepKeep, SX.guardIx, SX.evOp, SX.opd, SX.opds, SX.optOpd, SX.look, SX.putS, SX.gobs, SX.AllP, SX.leave, SX.lookC, SX.lookB, SX.lookT, SX.lookN, SX.findK, SX.evBuiltin, SX.ints, SX.foldI, SX.evBin, SX.evInt, SX.evStr, SX.evEq, SX.arith, SX.evLoad, SX.shapeUp, SX.evFieldAddr, SX.evField, SX.evIndexAddr, SX.evIndex, SX.evFill, SX.evBuild, SX.szs, SX.cellsV, SX.evNew, SX.evStore, SX.spliceL, SX.SV.cells, SX.evConv, SX.evSlice, SX.bnd, SX.evNil, SX.evUn, SX.evPick, SX.pickOpd, SX.popTo, SX.cnd, SX.env0, SX.TD.isAgg, SX.TD.isIface, SX.tails, SX.NotAgg, SX.evLookup, SX.evConvH, SX.evPtrEq, SX.isCells, SX.thaw, SX.frz, SX.fixB, SX.rootIx, SX.Froz, SX.frzStep, SX.fork, Go.Value.cells, Go.undef, cfg7, extC, hxm, hgt, ej, hy, h3]
          refine ⟨by (unfold SX.Ob; first | trivial | omega | ((try simp only [SX.inK]); (try simp [SX.den, SX.IsU8, SX.AllP, *]); (try omega))), ?_⟩
          intro a15 w15 hr15 _
          refine post_call 20 [.v (.slice ad L.length cp), .v (.int .i64 x0)] hr15 (by first | exact wanted_none rfl | exact wanted_zero (hr15.env.same rfl rfl rfl rfl) rfl (by simp) | exact wanted_zero (hr15.env.same rfl rfl rfl rfl) rfl (by simp [*])) rfl (callable 20 Try.func20) (hAt w15 ((hL8.keep hr13.keeps (by simp [frameAt, mutB])).keep hr15.keeps (by simp [frameAt, mutB]))) ?_
          rintro e16 w16 ⟨rfl, hb16⟩
          refine ⟨_, rfl, ?_⟩
          have h16 := hr15.ret hb16 122 (.tu [.ag (extC ⟨f0, f1, f2, k, y4⟩), .v (.bool true)]) rfl _ (hr15.all.below hb16) (by simp) rfl
          refine seg cfg7_ok mixed PanicFree.body 1000 [false] [(127, false), (133, false), (140, false)] h16 (by first | trivial | exact HpRep.nil | assumption) (by kernel_rfl) fun s_ hs_ => ?_
          simp (maxSteps := 10000000) [SX.vc, SX.stop, SX.contS, SX.contB, SX.contW, SX.contR, SX.contD, SX.sxStep, SX.stepPure, SX.stepNew, SX.stepStore, SX.stepKeep, SX.guardIx, SX.evOp, SX.opd, SX.opds, SX.optOpd, SX.look, SX.putS, SX.gobs, SX.AllP, SX.leave, SX.lookC, SX.lookB, SX.lookT, SX.lookN, SX.findK, SX.evBuiltin, SX.ints, SX.foldI, SX.evBin, SX.evInt, SX.evStr, SX.evEq, SX.arith, SX.evLoad, SX.shapeUp, SX.evFieldAddr, SX.evField, SX.evIndexAddr, SX.evIndex, SX.evFill, SX.evBuild, SX.szs, SX.cellsV, SX.evNew, SX.evStore, SX.spliceL, SX.SV.cells, SX.evConv, SX.evSlice, SX.bnd, SX.evNil, SX.evUn, SX.evPick, SX.pickOpd, SX.popTo, SX.cnd, SX.env0, SX.TD.isAgg, SX.TD.isIface, SX.tails, SX.NotAgg, SX.evLookup, SX.evConvH, SX.evPtrEq, SX.isCells, SX.thaw, SX.frz, SX.fixB, SX.rootIx, SX.Froz, SX.frzStep, SX.fork, Go.Value.cells, Go.undef, cfg7, extC]
          refine ⟨by (unfold SX.Ob; first | trivial | omega | ((try simp only [SX.inK]); (try simp [SX.den, SX.IsU8, SX.AllP, *]); (try omega))), ?_⟩
          intro a17 w17 hr17 _
          have hr18 := hr13.unbase hr17
          exact post_rnd (M.length - (j + 1)) (by omega) ⟨j + 1, rfl, by omega, hM13.keep hr17.keeps (by simp [frameAt, mutB]), hr18.re (by rw [hst]; simp [envTo, SX.look, den]) trivial rfl rfl⟩
    obtain rfl : j = M.length := by omega
    have hsum : sumN (M.take M.length) = n := by rw [List.take_length, sumN_perm hMp, sumN_in, hnk]
    rw [hsum] at hr13
    have htot : totE L (k + 1) = totE L k + n := by simp only [totE, hnk]
    have htb := totE_bound hM k
    have hnb := cntE_bound hM k
    rw [← hnk] at hnb
    have hLk : 1099511627776 * (L.length : Int) * (k : Int) ≤ 1099511627776 * 300 * 64 := by
      have h1 : (1099511627776 : Int) * (L.length : Int) ≤ 1099511627776 * 300 := by omega
      exact Int.mul_le_mul h1 (by omega) (by omega) (by omega)
    obtain ⟨q, hq⟩ : ∃ q, totE L k = q := ⟨_, rfl⟩
    rw [hq] at htot htb hr13
    have htb2 : q ≤ 1099511627776 * 300 * 64 := by omega
    have htb0 := htb.1
    clear htb hLk
    refine seg cfg7_ok mixed PanicFree.body 1000 [false, false] [(150, false)] hr13 (by first | trivial | exact HpRep.nil | assumption) (by kernel_rfl) fun s_ hs_ => ?_
    simp (maxSteps := 10000000) [SX.vc, SX.stop, SX.contS, SX.contB, SX.contW, SX.contR, SX.contD, SX.sxStep, SX.stepPure, SX.stepNew, SX.stepStore, SX.stepKeep, SX.guardIx, SX.evOp, SX.opd, SX.opds, SX.optOpd, SX.look, SX.putS, SX.gobs, SX.AllP, SX.leave, SX.lookC, SX.lookB, SX.lookT, SX.lookN, SX.findK, SX.evBuiltin, SX.ints, SX.foldI, SX.evBin, SX.evInt, SX.evStr, SX.evEq, SX.arith, SX.evLoad, SX.shapeUp, SX.evFieldAddr, SX.evField, SX.evIndexAddr, SX.evIndex, SX.evFill, SX.evBuild, SX.szs, SX.cellsV, SX.evNew, SX.evStore, SX.spliceL, SX.SV.cells, SX.evConv, SX.evSlice, SX.bnd, SX.evNil, SX.evUn, SX.evPick, SX.pickOpd, SX.popTo, SX.cnd, SX.env0, SX.TD.isAgg, SX.TD.isIface, SX.tails, SX.NotAgg, SX.evLookup, SX.evConvH, SX.evPtrEq, SX.isCells, SX.thaw, SX.frz, SX.fixB, SX.rootIx, SX.Froz, SX.frzStep, SX.fork, Go.Value.cells, Go.undef, cfg7]
    refine ⟨by (unfold SX.Ob; first | trivial | omega | ((try simp only [SX.inK]); (try simp [SX.den, SX.IsU8, SX.AllP, *]); (try omega))), ?_⟩
    intro a15 w15 hr15 _
    have hr19 := hr8.unbase hr15
    exact post_rnd (z - (k + 1)) (by omega) ⟨k + 1, rfl, by omega, hC8.keep hr15.keeps (by simp [frameAt, mutB]), hr19.re (by rw [htot]; simp [envTo, SX.look, den]) trivial rfl rfl⟩
  obtain rfl : k = z := by omega
  obtain ⟨q, hq⟩ : ∃ q, totE L k = q := ⟨_, rfl⟩
  rw [hq] at hr8
  refine seg cfg7_ok mixed PanicFree.body 1000 [false] [] hr8 (by first | trivial | exact HpRep.nil | assumption) (by kernel_rfl) fun s_ hs_ => ?_
  simp (maxSteps := 10000000) [SX.vc, SX.stop, SX.contS, SX.contB, SX.contW, SX.contR, SX.contD, SX.sxStep, SX.stepPure, SX.stepNew, SX.stepStore, SX.stepKeep, SX.guardIx, SX.evOp, SX.opd, SX.opds, SX.optOpd, SX.look, SX.putS, SX.gobs, SX.AllP, SX.leave, SX.lookC, SX.lookB, SX.lookT, SX.lookN, SX.findK, SX.evBuiltin, SX.ints, SX.foldI, SX.evBin, SX.evInt, SX.evStr, SX.evEq, SX.arith, SX.evLoad, SX.shapeUp, SX.evFieldAddr, SX.evField, SX.evIndexAddr, SX.evIndex, SX.evFill, SX.evBuild, SX.szs, SX.cellsV, SX.evNew, SX.evStore, SX.spliceL, SX.SV.cells, SX.evConv, SX.evSlice, SX.bnd, SX.evNil, SX.evUn, SX.evPick, SX.pickOpd, SX.popTo, SX.cnd, SX.env0, SX.TD.isAgg, SX.TD.isIface, SX.tails, SX.NotAgg, SX.evLookup, SX.evConvH, SX.evPtrEq, SX.isCells, SX.thaw, SX.frz, SX.fixB, SX.rootIx, SX.Froz, SX.frzStep, SX.fork, Go.Value.cells, Go.undef, cfg7]
  refine ⟨by (unfold SX.Ob; first | trivial | omega | ((try simp only [SX.inK]); (try simp [SX.den, SX.IsU8, SX.AllP, *]); (try omega))), ?_⟩
  intro a9 w9 hr9 _
  refine post_loop (AllLoop w L k q (.slice ad L.length cp)) L.length ⟨0, rfl, by omega, hr9.re (by simp [envTo, SX.look, wantE]) trivial rfl rfl⟩ ?_
  rintro m a10 w10 ⟨i, rfl, hi, hr10⟩
  by_cases hil : i < L.length
  · obtain ⟨b, o0, cap, u, fz, hP, hv, hrep⟩ := (hL.below hr10.keeps.toBelow).opn hil
    cases hv
    obtain ⟨x, hx⟩ : ∃ x, nth ext0 L i = x := ⟨_, rfl⟩
    have hxy := hM x (by rw [← hx]; exact nth_mem hil)
    have hst := wantE_step (z := k) hil hx
    have hwb := wantE_bound (take_may hM i) k
    have hsl : (L.take i).length ≤ 1000 := by rw [List.length_take]; omega
    obtain ⟨s, hs⟩ : ∃ s, wantE k (L.take i) = s := ⟨_, rfl⟩
    rw [hs] at hst hwb hr10
    obtain ⟨x0, x1, x2, x3, x4⟩ := x
    unfold May at hxy
    dsimp only at hxy hst
    have h11 := (hr10.rebase.top 159 (.sl 0 b o0 0 L.length cp 5) rfl (by simp [den])).see _ (HpAll.one hrep)
    by_cases h1 : 0 ≤ x3
    · by_cases h2 : x3 < (k : Int)
      · rw [if_pos ⟨h1, h2⟩] at hst
        refine seg cfg7_ok mixed PanicFree.body 1000 [true, true] [(168, true)] h11 (by first | trivial | exact HpRep.nil | assumption) (by kernel_rfl) fun s_ hs_ => ?_
        simp (maxSteps := 10000000) [SX.vc, SX.stop, SX.contS, SX.contB, SX.contW, SX.contR, SX.contD, SX.sxStep, SX.stepPure, SX.stepNew, SX.stepStore, SX.stepKeep, SX.guardIx, SX.evOp, SX.opd, SX.opds, SX.optOpd, SX.look, SX.putS, SX.gobs, SX.AllP, SX.leave, SX.lookC, SX.lookB, SX.lookT, SX.lookN, SX.findK, SX.evBuiltin, SX.ints, SX.foldI, SX.evBin, SX.evInt, SX.evStr, SX.evEq, SX.arith, SX.evLoad, SX.shapeUp, SX.evFieldAddr, SX.evField, SX.evIndexAddr, SX.evIndex, SX.evFill, SX.evBuild, SX.szs, SX.cellsV, SX.evNew, SX.evStore, SX.spliceL, SX.SV.cells, SX.evConv, SX.evSlice, SX.bnd, SX.evNil, SX.evUn, SX.evPick, SX.pickOpd, SX.popTo, SX.cnd, SX.env0, SX.TD.isAgg, SX.TD.isIface, SX.tails, SX.NotAgg, SX.evLookup, SX.evConvH, SX.evPtrEq, SX.isCells, SX.thaw, SX.frz, SX.fixB, SX.rootIx, SX.Froz, SX.frzStep, SX.fork, Go.Value.cells, Go.undef, cfg7, extC, hx, h1, h2]
        refine ⟨by (unfold SX.Ob; first | trivial | omega | ((try simp only [SX.inK]); (try simp [SX.den, SX.IsU8, SX.AllP, *]); (try omega))), ?_⟩
        intro a12 w12 hr12 _
        have hr13 := hr10.unbase hr12
        exact post_rnd (L.length - (i + 1)) (by omega) ⟨i + 1, rfl, by omega, hr13.re (by rw [hst]; simp [envTo, SX.look, den]) trivial rfl rfl⟩
      · rw [if_neg (fun h => h2 h.2), Int.add_zero] at hst
        refine seg cfg7_ok mixed PanicFree.body 1000 [true, false] [(168, true)] h11 (by first | trivial | exact HpRep.nil | assumption) (by kernel_rfl) fun s_ hs_ => ?_
        simp (maxSteps := 10000000) [SX.vc, SX.stop, SX.contS, SX.contB, SX.contW, SX.contR, SX.contD, SX.sxStep, SX.stepPure, SX.stepNew, SX.stepStore, SX.stepKeep, SX.guardIx, SX.evOp, SX.opd, SX.opds, SX.optOpd, SX.look, SX.putS, SX.gobs, SX.AllP, SX.leave, SX.lookC, SX.lookB, SX.lookT, SX.lookN, SX.findK, SX.evBuiltin, SX.ints, SX.foldI, SX.evBin, SX.evInt, SX.evStr, SX.evEq, SX.arith, SX.evLoad, SX.shapeUp, SX.evFieldAddr, SX.evField, SX.evIndexAddr, SX.evIndex, SX.evFill, SX.evBuild, SX.szs, SX.cellsV, SX.evNew, SX.evStore, SX.spliceL, SX.SV.cells, SX.evConv, SX.evSlice, SX.bnd, SX.evNil, SX.evUn, SX.evPick, SX.pickOpd, SX.popTo, SX.cnd, SX.env0, SX.TD.isAgg, SX.TD.isIface, SX.tails, SX.NotAgg, SX.evLookup, SX.evConvH, SX.evPtrEq, SX.isCells, SX.thaw, SX.frz, SX.fixB, SX.rootIx, SX.Froz, SX.frzStep, SX.fork, Go.Value.cells, Go.undef, cfg7, extC, hx, h1, h2]
        refine ⟨by (unfold SX.Ob; first | trivial | omega | ((try simp only [SX.inK]); (try simp [SX.den, SX.IsU8, SX.AllP, *]); (try omega))), ?_⟩
        intro a12 w12 hr12 _
        have hr13 := hr10.unbase hr12
        exact post_rnd (L.length - (i + 1)) (by omega) ⟨i + 1, rfl, by omega, hr13.re (by rw [hst]; simp [envTo, SX.look, den]) trivial rfl rfl⟩
    · rw [if_neg (fun h => h1 h.1), Int.add_zero] at hst
      refine seg cfg7_ok mixed PanicFree.body 1000 [true, false] [(168, false)] h11 (by first | trivial | exact HpRep.nil | assumption) (by kernel_rfl) fun s_ hs_ => ?_
      simp (maxSteps := 10000000) [SX.vc, SX.stop, SX.contS, SX.contB, SX.contW, SX.contR, SX.contD, SX.sxStep, SX.stepPure, SX.stepNew, SX.stepStore, SX.stepKeep, SX.guardIx, SX.evOp, SX.opd, SX.opds, SX.optOpd, SX.look, SX.putS, SX.gobs, SX.AllP, SX.leave, SX.lookC, SX.lookB, SX.lookT, SX.lookN, SX.findK, SX.evBuiltin, SX.ints, SX.foldI, SX.evBin, SX.evInt, SX.evStr, SX.evEq, SX.arith, SX.evLoad, SX.shapeUp, SX.evFieldAddr, SX.evField, SX.evIndexAddr, SX.evIndex, SX.evFill, SX.evBuild, SX.szs, SX.cellsV, SX.evNew, SX.evStore, SX.spliceL, SX.SV.cells, SX.evConv, SX.evSlice, SX.bnd, SX.evNil, SX.evUn, SX.evPick, SX.pickOpd, SX.popTo, SX.cnd, SX.env0, SX.TD.isAgg, SX.TD.isIface, SX.tails, SX.NotAgg, SX.evLookup, SX.evConvH, SX.evPtrEq, SX.isCells, SX.thaw, SX.frz, SX.fixB, SX.rootIx, SX.Froz, SX.frzStep, SX.fork, Go.Value.cells, Go.undef, cfg7, extC, hx, h1]
      refine ⟨by (unfold SX.Ob; first | trivial | omega | ((try simp only [SX.inK]); (try simp [SX.den, SX.IsU8, SX.AllP, *]); (try omega))), ?_⟩
      intro a12 w12 hr12 _
      have hr13 := hr10.unbase hr12
      exact post_rnd (L.length - (i + 1)) (by omega) ⟨i + 1, rfl, by omega, hr13.re (by rw [hst]; simp [envTo, SX.look, den]) trivial rfl rfl⟩
  obtain rfl : i = L.length := by omega
  have hw : wantE k (L.take L.length) = q := by rw [List.take_length, ← tot_want, hq]
  rw [hw] at hr10
  refine seg cfg7_ok mixed PanicFree.body 1000 [false] [(180, true)] hr10 (by first | trivial | exact HpRep.nil | assumption) (by kernel_rfl) fun s_ hs_ => ?_
  simp (maxSteps := 10000000) [SX.vc, SX.stop, SX.contS, SX.contB, SX.contW, SX.contR, SX.contD, SX.sxStep, SX.stepPure, SX.stepNew, SX.stepStore, SX.stepKeep, SX.guardIx, SX.evOp, SX.opd, SX.opds, SX.optOpd, SX.look, SX.putS, SX.gobs, SX.AllP, SX.leave, SX.lookC, SX.lookB, SX.lookT, SX.lookN, SX.findK, SX.evBuiltin, SX.ints, SX.foldI, SX.evBin, SX.evInt, SX.evStr, SX.evEq, SX.arith, SX.evLoad, SX.shapeUp, SX.evFieldAddr, SX.evField, SX.evIndexAddr, SX.evIndex, SX.evFill, SX.evBuild, SX.szs, SX.cellsV, SX.evNew, SX.evStore, SX.spliceL, SX.SV.cells, SX.evConv, SX.evSlice, SX.bnd, SX.evNil, SX.evUn, SX.evPick, SX.pickOpd, SX.popTo, SX.cnd, SX.env0, SX.TD.isAgg, SX.TD.isIface, SX.tails, SX.NotAgg, SX.evLookup, SX.evConvH, SX.evPtrEq, SX.isCells, SX.thaw, SX.frz, SX.fixB, SX.rootIx, SX.Froz, SX.frzStep, SX.fork, Go.Value.cells, Go.undef, cfg7]
  refine ⟨by (unfold SX.Ob; first | trivial | omega | ((try simp only [SX.inK]); (try simp [SX.den, SX.IsU8, SX.AllP, *]); (try omega))), ?_⟩
  intro a11 w11 hr11 _
  exact post_retn (end1 hr11 rfl rfl ⟨by simp [den], hr11.keeps.toBelow⟩).1
end Go.Proofs
