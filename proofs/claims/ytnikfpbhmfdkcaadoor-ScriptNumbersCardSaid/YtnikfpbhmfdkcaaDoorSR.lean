/- ScriptNumbers, walked. -/
import Derived.Test.YtnikfpbhmfdkcaaDoorSN
namespace Go.Proofs
set_option linter.unusedVariables false
set_option linter.unusedSimpArgs false
set_option linter.unusedSectionVars false
open Go Go.SX Go.RowKit Go.Script

def badWs (t : L8) : List L8 := [48 :: t, 43 :: t, 45 :: t, t ++ [32], t ++ [95, 48], t ++ [46, 48], 48 :: 120 :: t]
theorem badWs_none (n : Nat) : ∀ y ∈ badWs (digs n), numL y = none := by
  intro y hy
  have hz : ∀ l : L8, l ≠ [] → numL (48 :: l) = none := fun l hl => by
    unfold numL
    have : numBad (48 :: l) = true := by
      have hp : 0 < l.length := List.length_pos_iff.2 hl
      simp [numBad]
      omega
    rw [this]
    rfl
  have hno : ∀ (l : L8) (c : UInt8), c ∈ l → isDig c = false → numL l = none := fun l c hc hd => numL_of_bad (List.all_eq_false.2 ⟨c, hc, by rw [hd]; simp⟩)
  simp only [badWs, List.mem_cons, List.not_mem_nil, or_false] at hy
  rcases hy with rfl | rfl | rfl | rfl | rfl | rfl | rfl
  · exact hz _ (digs_ne n)
  · exact hno _ 43 (by simp) (by decide)
  · exact hno _ 45 (by simp) (by decide)
  · exact hno _ 32 (by simp) (by decide)
  · exact hno _ 95 (by simp) (by decide)
  · exact hno _ 46 (by simp) (by decide)
  · exact hz _ (by simp)
def NumsL (w : World) (s : L8) (wv : Value) (m : Nat) (a : Act) (w' : World) : Prop :=
  ∃ k : Nat, m = 7 - k ∧ k ≤ 7 ∧ RepX (frame0 w) ⟨[(59, 0, .v (.int .i64 k)), (58, 0, .v (.int .i64 7)), (57, 0, .v wv), (5, 0, .v (.bool true)), (1, 0, .v (.string (Script.B s)))], [], 0, 0, 86, [], [], []⟩ a w'

def NumJ0 (w : World) (n : Nat) (t s : L8) (a' : Act) (w' : World) : Prop :=
  ∃ (xv : Int) (ok : Bool), (ok = true → xv = n) ∧ ok = decide (n ≤ 1000000000000) ∧ RepX (frame0 w) ⟨[(8, 0, .v (.bool ok)), (7, 0, .v (.int .i64 xv)), (6, 0, .v (.string (Script.B t))), (5, 0, .v (.bool true)), (1, 0, .v (.string (Script.B s))), (0, 0, .v (.int .i64 n))], [], 0, 0, 86, [], [], []⟩ a' w'

set_option maxRecDepth 100000 in
set_option maxHeartbeats 16000000 in
/-- ScriptNumbers. -/
theorem scriptnumbers_ok (w : World) (n : Int) (s : L8) (hn : inK n) : Calls Tryd.prog 4 (denL [.v (.int .i64 n), .v (.string (Script.B s))]).toArray w fun e w' => e = .returned (.bool true) ∧ Below w.heap.size w w' := by
  obtain ⟨sl, hsl⟩ : ∃ sl, s.length = sl := ⟨_, rfl⟩
  refine enter (F := frame0 w) Tryd.func4 rfl [.v (.int .i64 n), .v (.string (Script.B s))] [] (by simp [Tryd.f4]) trivial (keeps0 w) fun a hr => ?_
  refine seg cfg4_ok mixed PanicFree.body 1000 [] [] hr (by first | trivial | exact HpRep.nil | assumption) (by kernel_rfl) fun s_ hs_ => ?_
  simp (maxSteps := 10000000) [SX.vc, SX.stop, SX.contS, SX.contB, SX.contW, SX.contR, SX.contD, SX.sxStep, SX.stepPure, SX.stepNew, SX.stepStore, SX.stepKeep, SX.guardIx, SX.evOp, SX.opd, SX.opds, SX.optOpd, SX.look, SX.putS, SX.gobs, SX.AllP, SX.leave, SX.lookC, SX.lookB, SX.lookT, SX.lookN, SX.findK, SX.evBuiltin, SX.ints, SX.foldI, SX.evBin, SX.evInt, SX.evStr, SX.evEq, SX.arith, SX.evLoad, SX.shapeUp, SX.evFieldAddr, SX.evField, SX.evIndexAddr, SX.evIndex, SX.evFill, SX.evBuild, SX.szs, SX.cellsV, SX.evNew, SX.evStore, SX.spliceL, SX.SV.cells, SX.evConv, SX.evSlice, SX.bnd, SX.evNil, SX.evUn, SX.evPick, SX.pickOpd, SX.popTo, SX.cnd, SX.env0, SX.TD.isAgg, SX.TD.isIface, SX.tails, SX.NotAgg, SX.evLookup, SX.evConvH, SX.evPtrEq, SX.isCells, SX.thaw, SX.frz, SX.fixB, SX.rootIx, SX.Froz, SX.frzStep, SX.fork, Go.Value.cells, Go.undef, cfg4, Tryd.f4]
  refine ⟨by (unfold SX.Ob; first | trivial | omega | ((try simp only [SX.inK]); (try simp [SX.den, SX.IsU8, SX.AllP, *]); (try omega))), ?_⟩
  intro a1 w1 hr1 _
  refine post_call 5 [] hr1 (by first | exact wanted_none rfl | exact wanted_zero (hr1.env.same rfl rfl rfl rfl) rfl (by simp) | exact wanted_zero (hr1.env.same rfl rfl rfl rfl) rfl (by simp [*])) rfl (callable 5 Tryd.func5) (live_ok w1) ?_
  rintro e2 w2 ⟨rfl, hb2⟩
  refine ⟨_, rfl, ?_⟩
  have h2 := hr1.ret hb2 15 (.v (.bool true)) rfl _ (hr1.all.below hb2) (by simp) rfl
  by_cases h0 : n < 0
  · refine seg cfg4_ok mixed PanicFree.body 1000 [true] [(18, true)] h2 (by first | trivial | exact HpRep.nil | assumption) (by kernel_rfl) fun s_ hs_ => ?_
    simp (maxSteps := 10000000) [SX.vc, SX.stop, SX.contS, SX.contB, SX.contW, SX.contR, SX.contD, SX.sxStep, SX.stepPure, SX.stepNew, SX.stepStore, SX.stepKeep, SX.guardIx, SX.evOp, SX.opd, SX.opds, SX.optOpd, SX.look, SX.putS, SX.gobs, SX.AllP, SX.leave, SX.lookC, SX.lookB, SX.lookT, SX.lookN, SX.findK, SX.evBuiltin, SX.ints, SX.foldI, SX.evBin, SX.evInt, SX.evStr, SX.evEq, SX.arith, SX.evLoad, SX.shapeUp, SX.evFieldAddr, SX.evField, SX.evIndexAddr, SX.evIndex, SX.evFill, SX.evBuild, SX.szs, SX.cellsV, SX.evNew, SX.evStore, SX.spliceL, SX.SV.cells, SX.evConv, SX.evSlice, SX.bnd, SX.evNil, SX.evUn, SX.evPick, SX.pickOpd, SX.popTo, SX.cnd, SX.env0, SX.TD.isAgg, SX.TD.isIface, SX.tails, SX.NotAgg, SX.evLookup, SX.evConvH, SX.evPtrEq, SX.isCells, SX.thaw, SX.frz, SX.fixB, SX.rootIx, SX.Froz, SX.frzStep, SX.fork, Go.Value.cells, Go.undef, cfg4, h0]
    refine ⟨by (unfold SX.Ob; first | trivial | omega | ((try simp only [SX.inK]); (try simp [SX.den, SX.IsU8, SX.AllP, *]); (try omega))), ?_⟩
    intro a3 w3 hr3 _
    exact post_retn (end1 hr3 rfl rfl ⟨rfl, hr3.keeps.toBelow⟩).1
  by_cases h100 : 100 < sl
  · have hi : (100 : Int) < (sl : Int) := by omega
    refine seg cfg4_ok mixed PanicFree.body 1000 [true] [(18, false)] h2 (by first | trivial | exact HpRep.nil | assumption) (by kernel_rfl) fun s_ hs_ => ?_
    simp (maxSteps := 10000000) [SX.vc, SX.stop, SX.contS, SX.contB, SX.contW, SX.contR, SX.contD, SX.sxStep, SX.stepPure, SX.stepNew, SX.stepStore, SX.stepKeep, SX.guardIx, SX.evOp, SX.opd, SX.opds, SX.optOpd, SX.look, SX.putS, SX.gobs, SX.AllP, SX.leave, SX.lookC, SX.lookB, SX.lookT, SX.lookN, SX.findK, SX.evBuiltin, SX.ints, SX.foldI, SX.evBin, SX.evInt, SX.evStr, SX.evEq, SX.arith, SX.evLoad, SX.shapeUp, SX.evFieldAddr, SX.evField, SX.evIndexAddr, SX.evIndex, SX.evFill, SX.evBuild, SX.szs, SX.cellsV, SX.evNew, SX.evStore, SX.spliceL, SX.SV.cells, SX.evConv, SX.evSlice, SX.bnd, SX.evNil, SX.evUn, SX.evPick, SX.pickOpd, SX.popTo, SX.cnd, SX.env0, SX.TD.isAgg, SX.TD.isIface, SX.tails, SX.NotAgg, SX.evLookup, SX.evConvH, SX.evPtrEq, SX.isCells, SX.thaw, SX.frz, SX.fixB, SX.rootIx, SX.Froz, SX.frzStep, SX.fork, Go.Value.cells, Go.undef, cfg4, h0, hi, B_size, hsl]
    refine ⟨by (unfold SX.Ob; first | trivial | omega | ((try simp only [SX.inK]); (try simp [SX.den, SX.IsU8, SX.AllP, *]); (try omega))), ?_⟩
    intro a3 w3 hr3 _
    exact post_retn (end1 hr3 rfl rfl ⟨rfl, hr3.keeps.toBelow⟩).1
  have hi : ¬ (100 : Int) < (sl : Int) := by omega
  obtain ⟨n, rfl⟩ : ∃ k : Nat, n = k := ⟨n.toNat, by omega⟩
  have hn' : n ≤ 9223372036854775807 := by unfold inK at hn; omega
  refine seg cfg4_ok mixed PanicFree.body 1000 [false] [(18, false)] h2 (by first | trivial | exact HpRep.nil | assumption) (by kernel_rfl) fun s_ hs_ => ?_
  simp (maxSteps := 10000000) [SX.vc, SX.stop, SX.contS, SX.contB, SX.contW, SX.contR, SX.contD, SX.sxStep, SX.stepPure, SX.stepNew, SX.stepStore, SX.stepKeep, SX.guardIx, SX.evOp, SX.opd, SX.opds, SX.optOpd, SX.look, SX.putS, SX.gobs, SX.AllP, SX.leave, SX.lookC, SX.lookB, SX.lookT, SX.lookN, SX.findK, SX.evBuiltin, SX.ints, SX.foldI, SX.evBin, SX.evInt, SX.evStr, SX.evEq, SX.arith, SX.evLoad, SX.shapeUp, SX.evFieldAddr, SX.evField, SX.evIndexAddr, SX.evIndex, SX.evFill, SX.evBuild, SX.szs, SX.cellsV, SX.evNew, SX.evStore, SX.spliceL, SX.SV.cells, SX.evConv, SX.evSlice, SX.bnd, SX.evNil, SX.evUn, SX.evPick, SX.pickOpd, SX.popTo, SX.cnd, SX.env0, SX.TD.isAgg, SX.TD.isIface, SX.tails, SX.NotAgg, SX.evLookup, SX.evConvH, SX.evPtrEq, SX.isCells, SX.thaw, SX.frz, SX.fixB, SX.rootIx, SX.Froz, SX.frzStep, SX.fork, Go.Value.cells, Go.undef, cfg4, h0, hi, B_size, hsl]
  refine ⟨by (unfold SX.Ob; first | trivial | omega | ((try simp only [SX.inK]); (try simp [SX.den, SX.IsU8, SX.AllP, *]); (try omega))), ?_⟩
  intro a3 w3 hr3 _
  obtain ⟨t, ht⟩ : ∃ t, digs n = t := ⟨_, rfl⟩
  have hdg := digits_ok n w3 hn'
  have hnum := numL_digs n
  have hbad := badWs_none n
  have htl := digs_len n 19 (by omega)
  rw [ht] at hdg hnum hbad htl
  refine post_call 9 [.v (.int .i64 n)] hr3 (by first | exact wanted_none rfl | exact wanted_zero (hr3.env.same rfl rfl rfl rfl) rfl (by simp) | exact wanted_zero (hr3.env.same rfl rfl rfl rfl) rfl (by simp [*])) rfl (callable 9 Tryd.func9) (hdg) ?_
  rintro e4 w4 ⟨rfl, hb4⟩
  refine ⟨_, rfl, ?_⟩
  have h4 := hr3.ret hb4 25 (.v (.string (Script.B t))) rfl _ (hr3.all.below hb4) (by simp) rfl
  refine seg cfg4_ok mixed PanicFree.body 1000 [] [] h4 (by first | trivial | exact HpRep.nil | assumption) (by kernel_rfl) fun s_ hs_ => ?_
  simp (maxSteps := 10000000) [SX.vc, SX.stop, SX.contS, SX.contB, SX.contW, SX.contR, SX.contD, SX.sxStep, SX.stepPure, SX.stepNew, SX.stepStore, SX.stepKeep, SX.guardIx, SX.evOp, SX.opd, SX.opds, SX.optOpd, SX.look, SX.putS, SX.gobs, SX.AllP, SX.leave, SX.lookC, SX.lookB, SX.lookT, SX.lookN, SX.findK, SX.evBuiltin, SX.ints, SX.foldI, SX.evBin, SX.evInt, SX.evStr, SX.evEq, SX.arith, SX.evLoad, SX.shapeUp, SX.evFieldAddr, SX.evField, SX.evIndexAddr, SX.evIndex, SX.evFill, SX.evBuild, SX.szs, SX.cellsV, SX.evNew, SX.evStore, SX.spliceL, SX.SV.cells, SX.evConv, SX.evSlice, SX.bnd, SX.evNil, SX.evUn, SX.evPick, SX.pickOpd, SX.popTo, SX.cnd, SX.env0, SX.TD.isAgg, SX.TD.isIface, SX.tails, SX.NotAgg, SX.evLookup, SX.evConvH, SX.evPtrEq, SX.isCells, SX.thaw, SX.frz, SX.fixB, SX.rootIx, SX.Froz, SX.frzStep, SX.fork, Go.Value.cells, Go.undef, cfg4]
  refine ⟨by (unfold SX.Ob; first | trivial | omega | ((try simp only [SX.inK]); (try simp [SX.den, SX.IsU8, SX.AllP, *]); (try omega))), ?_⟩
  intro a5 w5 hr5 _
  refine post_cut (NumJ0 w n t s) 1 rfl ?_ fun a_ w_ hJ => ?_
  · by_cases hle : n ≤ 1000000000000
    · rw [if_pos hle] at hnum
      refine post_call 10 [.v (.string (Script.B t))] hr5 (by first | exact wanted_none rfl | exact wanted_zero (hr5.env.same rfl rfl rfl rfl) rfl (by simp) | exact wanted_zero (hr5.env.same rfl rfl rfl rfl) rfl (by simp [*])) rfl (callable 10 Tryd.func10) (number_some w5 t n hnum) ?_
      rintro e6 w6 ⟨rfl, hb6⟩
      refine ⟨_, rfl, ?_⟩
      have h6 := hr5.ret hb6 28 (.tu [.v (.int .i64 n), .v (.bool true)]) rfl _ (hr5.all.below hb6) (by simp) rfl
      refine seg cfg4_ok mixed PanicFree.body 1000 [] [] h6 (by first | trivial | exact HpRep.nil | assumption) (by kernel_rfl) fun s_ hs_ => ?_
      simp (maxSteps := 10000000) [SX.vc, SX.stop, SX.contS, SX.contB, SX.contW, SX.contR, SX.contD, SX.sxStep, SX.stepPure, SX.stepNew, SX.stepStore, SX.stepKeep, SX.guardIx, SX.evOp, SX.opd, SX.opds, SX.optOpd, SX.look, SX.putS, SX.gobs, SX.AllP, SX.leave, SX.lookC, SX.lookB, SX.lookT, SX.lookN, SX.findK, SX.evBuiltin, SX.ints, SX.foldI, SX.evBin, SX.evInt, SX.evStr, SX.evEq, SX.arith, SX.evLoad, SX.shapeUp, SX.evFieldAddr, SX.evField, SX.evIndexAddr, SX.evIndex, SX.evFill, SX.evBuild, SX.szs, SX.cellsV, SX.evNew, SX.evStore, SX.spliceL, SX.SV.cells, SX.evConv, SX.evSlice, SX.bnd, SX.evNil, SX.evUn, SX.evPick, SX.pickOpd, SX.popTo, SX.cnd, SX.env0, SX.TD.isAgg, SX.TD.isIface, SX.tails, SX.NotAgg, SX.evLookup, SX.evConvH, SX.evPtrEq, SX.isCells, SX.thaw, SX.frz, SX.fixB, SX.rootIx, SX.Froz, SX.frzStep, SX.fork, Go.Value.cells, Go.undef, cfg4]
      refine ⟨by (unfold SX.Ob; first | trivial | omega | ((try simp only [SX.inK]); (try simp [SX.den, SX.IsU8, SX.AllP, *]); (try omega))), ?_⟩
      intro a7 w7 hr7 _
      exact post_inv ⟨n, true, fun _ => rfl, by simp [hle], hr7.re (by simp [envTo, SX.look]) trivial rfl rfl⟩
    · rw [if_neg hle] at hnum
      refine post_call 10 [.v (.string (Script.B t))] hr5 (by first | exact wanted_none rfl | exact wanted_zero (hr5.env.same rfl rfl rfl rfl) rfl (by simp) | exact wanted_zero (hr5.env.same rfl rfl rfl rfl) rfl (by simp [*])) rfl (callable 10 Tryd.func10) (number_none w5 t hnum) ?_
      rintro e6 w6 ⟨⟨q, rfl⟩, hb6⟩
      refine ⟨_, rfl, ?_⟩
      have h6 := hr5.ret hb6 28 (.tu [.v (.int .i64 q), .v (.bool false)]) rfl _ (hr5.all.below hb6) (by simp) rfl
      refine seg cfg4_ok mixed PanicFree.body 1000 [] [] h6 (by first | trivial | exact HpRep.nil | assumption) (by kernel_rfl) fun s_ hs_ => ?_
      simp (maxSteps := 10000000) [SX.vc, SX.stop, SX.contS, SX.contB, SX.contW, SX.contR, SX.contD, SX.sxStep, SX.stepPure, SX.stepNew, SX.stepStore, SX.stepKeep, SX.guardIx, SX.evOp, SX.opd, SX.opds, SX.optOpd, SX.look, SX.putS, SX.gobs, SX.AllP, SX.leave, SX.lookC, SX.lookB, SX.lookT, SX.lookN, SX.findK, SX.evBuiltin, SX.ints, SX.foldI, SX.evBin, SX.evInt, SX.evStr, SX.evEq, SX.arith, SX.evLoad, SX.shapeUp, SX.evFieldAddr, SX.evField, SX.evIndexAddr, SX.evIndex, SX.evFill, SX.evBuild, SX.szs, SX.cellsV, SX.evNew, SX.evStore, SX.spliceL, SX.SV.cells, SX.evConv, SX.evSlice, SX.bnd, SX.evNil, SX.evUn, SX.evPick, SX.pickOpd, SX.popTo, SX.cnd, SX.env0, SX.TD.isAgg, SX.TD.isIface, SX.tails, SX.NotAgg, SX.evLookup, SX.evConvH, SX.evPtrEq, SX.isCells, SX.thaw, SX.frz, SX.fixB, SX.rootIx, SX.Froz, SX.frzStep, SX.fork, Go.Value.cells, Go.undef, cfg4]
      refine ⟨by (unfold SX.Ob; first | trivial | omega | ((try simp only [SX.inK]); (try simp [SX.den, SX.IsU8, SX.AllP, *]); (try omega))), ?_⟩
      intro a7 w7 hr7 _
      exact post_inv ⟨q, false, fun h => (by cases h), by simp [hle], hr7.re (by simp [envTo, SX.look]) trivial rfl rfl⟩
  obtain ⟨xv, ok, hx, hok, hr6⟩ := hJ
  clear hr hr1 h2 hr3 h4 hr5
  refine seg cfg4_ok mixed PanicFree.body 1 [] [] hr6 (by first | trivial | exact HpRep.nil | assumption) (by kernel_rfl) fun s_ hs_ => ?_
  simp (maxSteps := 10000000) [SX.vc, SX.stop, SX.contS, SX.contB, SX.contW, SX.contR, SX.contD, SX.sxStep, SX.stepPure, SX.stepNew, SX.stepStore, SX.stepKeep, SX.guardIx, SX.evOp, SX.opd, SX.opds, SX.optOpd, SX.look, SX.putS, SX.gobs, SX.AllP, SX.leave, SX.lookC, SX.lookB, SX.lookT, SX.lookN, SX.findK, SX.evBuiltin, SX.ints, SX.foldI, SX.evBin, SX.evInt, SX.evStr, SX.evEq, SX.arith, SX.evLoad, SX.shapeUp, SX.evFieldAddr, SX.evField, SX.evIndexAddr, SX.evIndex, SX.evFill, SX.evBuild, SX.szs, SX.cellsV, SX.evNew, SX.evStore, SX.spliceL, SX.SV.cells, SX.evConv, SX.evSlice, SX.bnd, SX.evNil, SX.evUn, SX.evPick, SX.pickOpd, SX.popTo, SX.cnd, SX.env0, SX.TD.isAgg, SX.TD.isIface, SX.tails, SX.NotAgg, SX.evLookup, SX.evConvH, SX.evPtrEq, SX.isCells, SX.thaw, SX.frz, SX.fixB, SX.rootIx, SX.Froz, SX.frzStep, SX.fork, Go.Value.cells, Go.undef, cfg4]
  refine ⟨by (unfold SX.Ob; first | trivial | omega | ((try simp only [SX.inK]); (try simp [SX.den, SX.IsU8, SX.AllP, *]); (try omega))), ?_⟩
  intro a7 w7 hr7 _
  refine post_cut (fun a' w' => RepX (frame0 w) ⟨[(6, 0, .v (.string (Script.B t))), (5, 0, .v (.bool true)), (1, 0, .v (.string (Script.B s)))], [], 0, 0, 86, [], [], []⟩ a' w') 1 rfl ?_ fun a_ w_ hJ => ?_
  · cases ok with
    | true =>
      obtain rfl := hx rfl
      have hle : n ≤ 1000000000000 := by simpa using hok.symm
      have hlei : (n : Int) ≤ 1000000000000 := by omega
      refine seg cfg4_ok mixed PanicFree.body 1000 [false] [(35, false), (37, true)] hr7 (by first | trivial | exact HpRep.nil | assumption) (by kernel_rfl) fun s_ hs_ => ?_
      simp (maxSteps := 10000000) [SX.vc, SX.stop, SX.contS, SX.contB, SX.contW, SX.contR, SX.contD, SX.sxStep, SX.stepPure, SX.stepNew, SX.stepStore, SX.stepKeep, SX.guardIx, SX.evOp, SX.opd, SX.opds, SX.optOpd, SX.look, SX.putS, SX.gobs, SX.AllP, SX.leave, SX.lookC, SX.lookB, SX.lookT, SX.lookN, SX.findK, SX.evBuiltin, SX.ints, SX.foldI, SX.evBin, SX.evInt, SX.evStr, SX.evEq, SX.arith, SX.evLoad, SX.shapeUp, SX.evFieldAddr, SX.evField, SX.evIndexAddr, SX.evIndex, SX.evFill, SX.evBuild, SX.szs, SX.cellsV, SX.evNew, SX.evStore, SX.spliceL, SX.SV.cells, SX.evConv, SX.evSlice, SX.bnd, SX.evNil, SX.evUn, SX.evPick, SX.pickOpd, SX.popTo, SX.cnd, SX.env0, SX.TD.isAgg, SX.TD.isIface, SX.tails, SX.NotAgg, SX.evLookup, SX.evConvH, SX.evPtrEq, SX.isCells, SX.thaw, SX.frz, SX.fixB, SX.rootIx, SX.Froz, SX.frzStep, SX.fork, Go.Value.cells, Go.undef, cfg4, hlei]
      refine ⟨by (unfold SX.Ob; first | trivial | omega | ((try simp only [SX.inK]); (try simp [SX.den, SX.IsU8, SX.AllP, *]); (try omega))), ?_⟩
      intro a8 w8 hr8 _
      exact post_inv (hr8.re (by simp [envTo, SX.look]) trivial rfl rfl)
    | false =>
      have hle : ¬ n ≤ 1000000000000 := by simpa using hok.symm
      have hlei : ¬ (n : Int) ≤ 1000000000000 := by omega
      refine seg cfg4_ok mixed PanicFree.body 1000 [false] [(35, false), (37, false)] hr7 (by first | trivial | exact HpRep.nil | assumption) (by kernel_rfl) fun s_ hs_ => ?_
      simp (maxSteps := 10000000) [SX.vc, SX.stop, SX.contS, SX.contB, SX.contW, SX.contR, SX.contD, SX.sxStep, SX.stepPure, SX.stepNew, SX.stepStore, SX.stepKeep, SX.guardIx, SX.evOp, SX.opd, SX.opds, SX.optOpd, SX.look, SX.putS, SX.gobs, SX.AllP, SX.leave, SX.lookC, SX.lookB, SX.lookT, SX.lookN, SX.findK, SX.evBuiltin, SX.ints, SX.foldI, SX.evBin, SX.evInt, SX.evStr, SX.evEq, SX.arith, SX.evLoad, SX.shapeUp, SX.evFieldAddr, SX.evField, SX.evIndexAddr, SX.evIndex, SX.evFill, SX.evBuild, SX.szs, SX.cellsV, SX.evNew, SX.evStore, SX.spliceL, SX.SV.cells, SX.evConv, SX.evSlice, SX.bnd, SX.evNil, SX.evUn, SX.evPick, SX.pickOpd, SX.popTo, SX.cnd, SX.env0, SX.TD.isAgg, SX.TD.isIface, SX.tails, SX.NotAgg, SX.evLookup, SX.evConvH, SX.evPtrEq, SX.isCells, SX.thaw, SX.frz, SX.fixB, SX.rootIx, SX.Froz, SX.frzStep, SX.fork, Go.Value.cells, Go.undef, cfg4, hlei]
      refine ⟨by (unfold SX.Ob; first | trivial | omega | ((try simp only [SX.inK]); (try simp [SX.den, SX.IsU8, SX.AllP, *]); (try omega))), ?_⟩
      intro a8 w8 hr8 _
      exact post_inv (hr8.re (by simp [envTo, SX.look]) trivial rfl rfl)
  clear hr7 hr6 hx hok
  have hr6 : RepX (frame0 w) ⟨[(6, 0, .v (.string (Script.B t))), (5, 0, .v (.bool true)), (1, 0, .v (.string (Script.B s)))], [], 0, 0, 86, [], [], []⟩ a_ w_ := hJ
  have hs1 : ((⟨#[48]⟩ : ByteArray).size : Int) + ((Script.B t).size : Int) ≤ 9223372036854775807 := by rw [B_size, show (⟨#[48]⟩ : ByteArray).size = 1 from rfl]; omega
  have hs2 : ((⟨#[43]⟩ : ByteArray).size : Int) + ((Script.B t).size : Int) ≤ 9223372036854775807 := by rw [B_size, show (⟨#[43]⟩ : ByteArray).size = 1 from rfl]; omega
  have hs3 : ((⟨#[45]⟩ : ByteArray).size : Int) + ((Script.B t).size : Int) ≤ 9223372036854775807 := by rw [B_size, show (⟨#[45]⟩ : ByteArray).size = 1 from rfl]; omega
  have hs4 : ((Script.B t).size : Int) + ((⟨#[32]⟩ : ByteArray).size : Int) ≤ 9223372036854775807 := by rw [B_size, show (⟨#[32]⟩ : ByteArray).size = 1 from rfl]; omega
  have hs5 : ((Script.B t).size : Int) + ((⟨#[95, 48]⟩ : ByteArray).size : Int) ≤ 9223372036854775807 := by rw [B_size, show (⟨#[95, 48]⟩ : ByteArray).size = 2 from rfl]; omega
  have hs6 : ((Script.B t).size : Int) + ((⟨#[46, 48]⟩ : ByteArray).size : Int) ≤ 9223372036854775807 := by rw [B_size, show (⟨#[46, 48]⟩ : ByteArray).size = 2 from rfl]; omega
  have hs7 : ((⟨#[48, 120]⟩ : ByteArray).size : Int) + ((Script.B t).size : Int) ≤ 9223372036854775807 := by rw [B_size, show (⟨#[48, 120]⟩ : ByteArray).size = 2 from rfl]; omega
  refine seg cfg4_ok mixed PanicFree.body 17 [] [] hr6 (by first | trivial | exact HpRep.nil | assumption) (by kernel_rfl) fun s_ hs_ => ?_
  simp (maxSteps := 10000000) [SX.vc, SX.stop, SX.contS, SX.contB, SX.contW, SX.contR, SX.contD, SX.sxStep, SX.stepPure, SX.stepNew, SX.stepStore, SX.stepKeep, SX.guardIx, SX.evOp, SX.opd, SX.opds, SX.optOpd, SX.look, SX.putS, SX.gobs, SX.AllP, SX.leave, SX.lookC, SX.lookB, SX.lookT, SX.lookN, SX.findK, SX.evBuiltin, SX.ints, SX.foldI, SX.evBin, SX.evInt, SX.evStr, SX.evEq, SX.arith, SX.evLoad, SX.shapeUp, SX.evFieldAddr, SX.evField, SX.evIndexAddr, SX.evIndex, SX.evFill, SX.evBuild, SX.szs, SX.cellsV, SX.evNew, SX.evStore, SX.spliceL, SX.SV.cells, SX.evConv, SX.evSlice, SX.bnd, SX.evNil, SX.evUn, SX.evPick, SX.pickOpd, SX.popTo, SX.cnd, SX.env0, SX.TD.isAgg, SX.TD.isIface, SX.tails, SX.NotAgg, SX.evLookup, SX.evConvH, SX.evPtrEq, SX.isCells, SX.thaw, SX.frz, SX.fixB, SX.rootIx, SX.Froz, SX.frzStep, SX.fork, Go.Value.cells, Go.undef, cfg4, hs1, hs2, hs3, hs4, hs5, hs6, hs7]
  refine ⟨by (unfold SX.Ob; first | trivial | omega | ((try simp only [SX.inK]); (try simp [SX.den, SX.IsU8, SX.AllP, *]); (try omega))), ?_⟩
  intro a7 w7 hr7 _
  obtain ⟨z1, hz1⟩ : ∃ z, (⟨#[48]⟩ : ByteArray) ++ Script.B t = z := ⟨_, rfl⟩
  obtain ⟨z2, hz2⟩ : ∃ z, (⟨#[43]⟩ : ByteArray) ++ Script.B t = z := ⟨_, rfl⟩
  obtain ⟨z3, hz3⟩ : ∃ z, (⟨#[45]⟩ : ByteArray) ++ Script.B t = z := ⟨_, rfl⟩
  obtain ⟨z4, hz4⟩ : ∃ z, Script.B t ++ (⟨#[32]⟩ : ByteArray) = z := ⟨_, rfl⟩
  obtain ⟨z5, hz5⟩ : ∃ z, Script.B t ++ (⟨#[95, 48]⟩ : ByteArray) = z := ⟨_, rfl⟩
  obtain ⟨z6, hz6⟩ : ∃ z, Script.B t ++ (⟨#[46, 48]⟩ : ByteArray) = z := ⟨_, rfl⟩
  obtain ⟨z7, hz7⟩ : ∃ z, (⟨#[48, 120]⟩ : ByteArray) ++ Script.B t = z := ⟨_, rfl⟩
  have h8 := hr7.re (st' := ⟨[(44, 0, .v (.string z1)), (46, 0, .v (.string z2)), (48, 0, .v (.string z3)), (50, 0, .v (.string z4)), (52, 0, .v (.string z5)), (54, 0, .v (.string z6)), (56, 0, .v (.string z7)), (5, 0, .v (.bool true)), (1, 0, .v (.string (Script.B s)))], [], 0, 0, 86, [], [], []⟩) (by simp [envTo, SX.look, hz1, hz2, hz3, hz4, hz5, hz6, hz7]) trivial rfl rfl
  clear hs1 hs2 hs3 hs4 hs5 hs6 hs7
  refine seg cfg4_ok mixed PanicFree.body 1000 [] [] h8 (by first | trivial | exact HpRep.nil | assumption) (by kernel_rfl) fun wB hwB => ?_
  simp (maxSteps := 10000000) [SX.vc, SX.stop, SX.contS, SX.contB, SX.contW, SX.contR, SX.contD, SX.sxStep, SX.stepPure, SX.stepNew, SX.stepStore, SX.stepKeep, SX.guardIx, SX.evOp, SX.opd, SX.opds, SX.optOpd, SX.look, SX.putS, SX.gobs, SX.AllP, SX.leave, SX.lookC, SX.lookB, SX.lookT, SX.lookN, SX.findK, SX.evBuiltin, SX.ints, SX.foldI, SX.evBin, SX.evInt, SX.evStr, SX.evEq, SX.arith, SX.evLoad, SX.shapeUp, SX.evFieldAddr, SX.evField, SX.evIndexAddr, SX.evIndex, SX.evFill, SX.evBuild, SX.szs, SX.cellsV, SX.evNew, SX.evStore, SX.spliceL, SX.SV.cells, SX.evConv, SX.evSlice, SX.bnd, SX.evNil, SX.evUn, SX.evPick, SX.pickOpd, SX.popTo, SX.cnd, SX.env0, SX.TD.isAgg, SX.TD.isIface, SX.tails, SX.NotAgg, SX.evLookup, SX.evConvH, SX.evPtrEq, SX.isCells, SX.thaw, SX.frz, SX.fixB, SX.rootIx, SX.Froz, SX.frzStep, SX.fork, Go.Value.cells, Go.undef, cfg4]
  refine ⟨by (unfold SX.Ob; first | trivial | omega | ((try simp only [SX.inK]); (try simp [SX.den, SX.IsU8, SX.AllP, *]); (try omega))), ?_⟩
  intro a9 w9 hr9 _
  have hrep : (SO.arr 0 7 (fun j => wRow (nth [] (badWs t) j)) 1 9 (0, 0)).rep w9 wB := rep_arr_sub hr9.all.1.1 (Nat.le_refl _) fun j hj => by
    match j, hj with
    | 0, _ => simp [denL, den, wRow, nth, badWs, ← hz1, ← B_append, show (⟨#[48]⟩ : ByteArray) = Script.B [48] from rfl]
    | 1, _ => simp [denL, den, wRow, nth, badWs, ← hz2, ← B_append, show (⟨#[43]⟩ : ByteArray) = Script.B [43] from rfl]
    | 2, _ => simp [denL, den, wRow, nth, badWs, ← hz3, ← B_append, show (⟨#[45]⟩ : ByteArray) = Script.B [45] from rfl]
    | 3, _ => simp [denL, den, wRow, nth, badWs, ← hz4, ← B_append, show (⟨#[32]⟩ : ByteArray) = Script.B [32] from rfl]
    | 4, _ => simp [denL, den, wRow, nth, badWs, ← hz5, ← B_append, show (⟨#[95, 48]⟩ : ByteArray) = Script.B [95, 48] from rfl]
    | 5, _ => simp [denL, den, wRow, nth, badWs, ← hz6, ← B_append, show (⟨#[46, 48]⟩ : ByteArray) = Script.B [46, 48] from rfl]
    | 6, _ => simp [denL, den, wRow, nth, badWs, ← hz7, ← B_append, show (⟨#[48, 120]⟩ : ByteArray) = Script.B [48, 120] from rfl]
  rw [if_pos rfl] at hr9
  have hmu9 := hr9.all.1.2.1
  have hr10 := hr9.re (st' := ⟨[(59, 0, .v (.int .i64 (0 : Nat))), (58, 0, .v (.int .i64 7)), (57, 0, .v (.slice (some ⟨wB, 0, none⟩) 7 7)), (5, 0, .v (.bool true)), (1, 0, .v (.string (Script.B s)))], [(wB, false, .arr 0 7 (fun j => wRow (nth [] (badWs t) j)) 1 9 (0, 0))], 0, 0, 86, [], [], []⟩) (by simp [envTo, SX.look, den]) ⟨⟨hrep, by simp, by simp⟩, trivial⟩ rfl rfl
  clear hr9
  refine post_loop (fun m a w' => ∃ k : Nat, m = 7 - k ∧ k ≤ 7 ∧ RepX (frame0 w) ⟨[(59, 0, .v (.int .i64 k)), (58, 0, .v (.int .i64 7)), (57, 0, .v (.slice (some ⟨wB, 0, none⟩) 7 7)), (5, 0, .v (.bool true)), (1, 0, .v (.string (Script.B s)))], [(wB, false, .arr 0 7 (fun j => wRow (nth [] (badWs t) j)) 1 9 (0, 0))], 0, 0, 86, [], [], []⟩ a w') _ ⟨0, rfl, by omega, hr10⟩ ?_
  clear hr10 h8 hr7 hr6 hrep
  rintro m a10 w10 ⟨k, rfl, hk, hr10⟩
  by_cases hlt : k < 7
  · obtain ⟨y, hy⟩ : ∃ y, nth ([] : L8) (badWs t) k = y := ⟨_, rfl⟩
    have hyn : numL y = none := by
      rw [← hy]
      exact hbad _ (nth_mem (by simpa [badWs] using hlt))
    have hlk : (k : Int) < 7 := by omega
    have h11 := hr10.top 57 (.sl 0 wB 0 0 7 7 1) rfl (by simp [den])
    refine seg cfg4_ok mixed PanicFree.body 1000 [true] [] h11 (by first | trivial | exact HpRep.nil | assumption) (by kernel_rfl) fun s_ hs_ => ?_
    simp (maxSteps := 10000000) [SX.vc, SX.stop, SX.contS, SX.contB, SX.contW, SX.contR, SX.contD, SX.sxStep, SX.stepPure, SX.stepNew, SX.stepStore, SX.stepKeep, SX.guardIx, SX.evOp, SX.opd, SX.opds, SX.optOpd, SX.look, SX.putS, SX.gobs, SX.AllP, SX.leave, SX.lookC, SX.lookB, SX.lookT, SX.lookN, SX.findK, SX.evBuiltin, SX.ints, SX.foldI, SX.evBin, SX.evInt, SX.evStr, SX.evEq, SX.arith, SX.evLoad, SX.shapeUp, SX.evFieldAddr, SX.evField, SX.evIndexAddr, SX.evIndex, SX.evFill, SX.evBuild, SX.szs, SX.cellsV, SX.evNew, SX.evStore, SX.spliceL, SX.SV.cells, SX.evConv, SX.evSlice, SX.bnd, SX.evNil, SX.evUn, SX.evPick, SX.pickOpd, SX.popTo, SX.cnd, SX.env0, SX.TD.isAgg, SX.TD.isIface, SX.tails, SX.NotAgg, SX.evLookup, SX.evConvH, SX.evPtrEq, SX.isCells, SX.thaw, SX.frz, SX.fixB, SX.rootIx, SX.Froz, SX.frzStep, SX.fork, Go.Value.cells, Go.undef, cfg4, wRow, hy, hlk, hlt]
    refine ⟨by (unfold SX.Ob; first | trivial | omega | ((try simp only [SX.inK]); (try simp [SX.den, SX.IsU8, SX.AllP, *]); (try omega))), ?_⟩
    intro a12 w12 hr12 _
    refine post_call 10 [.v (.string (Script.B y))] hr12 (by first | exact wanted_none rfl | exact wanted_zero (hr12.env.same rfl rfl rfl rfl) rfl (by simp) | exact wanted_zero (hr12.env.same rfl rfl rfl rfl) rfl (by simp [*])) rfl (callable 10 Tryd.func10) (number_none w12 y hyn) ?_
    rintro e13 w13 ⟨⟨q, rfl⟩, hb13⟩
    refine ⟨_, rfl, ?_⟩
    have h13 := hr12.ret hb13 65 (.tu [.v (.int .i64 q), .v (.bool false)]) rfl _ (hr12.all.below hb13) (by simp) rfl
    refine seg cfg4_ok mixed PanicFree.body 1000 [false] [] h13 (by first | trivial | exact HpRep.nil | assumption) (by kernel_rfl) fun s_ hs_ => ?_
    simp (maxSteps := 10000000) [SX.vc, SX.stop, SX.contS, SX.contB, SX.contW, SX.contR, SX.contD, SX.sxStep, SX.stepPure, SX.stepNew, SX.stepStore, SX.stepKeep, SX.guardIx, SX.evOp, SX.opd, SX.opds, SX.optOpd, SX.look, SX.putS, SX.gobs, SX.AllP, SX.leave, SX.lookC, SX.lookB, SX.lookT, SX.lookN, SX.findK, SX.evBuiltin, SX.ints, SX.foldI, SX.evBin, SX.evInt, SX.evStr, SX.evEq, SX.arith, SX.evLoad, SX.shapeUp, SX.evFieldAddr, SX.evField, SX.evIndexAddr, SX.evIndex, SX.evFill, SX.evBuild, SX.szs, SX.cellsV, SX.evNew, SX.evStore, SX.spliceL, SX.SV.cells, SX.evConv, SX.evSlice, SX.bnd, SX.evNil, SX.evUn, SX.evPick, SX.pickOpd, SX.popTo, SX.cnd, SX.env0, SX.TD.isAgg, SX.TD.isIface, SX.tails, SX.NotAgg, SX.evLookup, SX.evConvH, SX.evPtrEq, SX.isCells, SX.thaw, SX.frz, SX.fixB, SX.rootIx, SX.Froz, SX.frzStep, SX.fork, Go.Value.cells, Go.undef, cfg4]
    refine ⟨by (unfold SX.Ob; first | trivial | omega | ((try simp only [SX.inK]); (try simp [SX.den, SX.IsU8, SX.AllP, *]); (try omega))), ?_⟩
    intro a14 w14 hr14 _
    exact post_rnd (7 - (k + 1)) (by omega) ⟨k + 1, rfl, by omega, hr14.re (by simp [envTo, SX.look, den]) hr14.all rfl rfl⟩
  obtain rfl : k = 7 := by omega
  refine seg cfg4_ok mixed PanicFree.body 1000 [false] [] hr10 (by first | trivial | exact HpRep.nil | assumption) (by kernel_rfl) fun s_ hs_ => ?_
  simp (maxSteps := 10000000) [SX.vc, SX.stop, SX.contS, SX.contB, SX.contW, SX.contR, SX.contD, SX.sxStep, SX.stepPure, SX.stepNew, SX.stepStore, SX.stepKeep, SX.guardIx, SX.evOp, SX.opd, SX.opds, SX.optOpd, SX.look, SX.putS, SX.gobs, SX.AllP, SX.leave, SX.lookC, SX.lookB, SX.lookT, SX.lookN, SX.findK, SX.evBuiltin, SX.ints, SX.foldI, SX.evBin, SX.evInt, SX.evStr, SX.evEq, SX.arith, SX.evLoad, SX.shapeUp, SX.evFieldAddr, SX.evField, SX.evIndexAddr, SX.evIndex, SX.evFill, SX.evBuild, SX.szs, SX.cellsV, SX.evNew, SX.evStore, SX.spliceL, SX.SV.cells, SX.evConv, SX.evSlice, SX.bnd, SX.evNil, SX.evUn, SX.evPick, SX.pickOpd, SX.popTo, SX.cnd, SX.env0, SX.TD.isAgg, SX.TD.isIface, SX.tails, SX.NotAgg, SX.evLookup, SX.evConvH, SX.evPtrEq, SX.isCells, SX.thaw, SX.frz, SX.fixB, SX.rootIx, SX.Froz, SX.frzStep, SX.fork, Go.Value.cells, Go.undef, cfg4]
  refine ⟨by (unfold SX.Ob; first | trivial | omega | ((try simp only [SX.inK]); (try simp [SX.den, SX.IsU8, SX.AllP, *]); (try omega))), ?_⟩
  intro a12 w12 hr12 _
  cases hns : numL s with
  | none =>
    refine post_call 10 [.v (.string (Script.B s))] hr12 (by first | exact wanted_none rfl | exact wanted_zero (hr12.env.same rfl rfl rfl rfl) rfl (by simp) | exact wanted_zero (hr12.env.same rfl rfl rfl rfl) rfl (by simp [*])) rfl (callable 10 Tryd.func10) (number_none w12 s hns) ?_
    rintro e13 w13 ⟨⟨q, rfl⟩, hb13⟩
    refine ⟨_, rfl, ?_⟩
    have h13 := hr12.ret hb13 72 (.tu [.v (.int .i64 q), .v (.bool false)]) rfl _ (hr12.all.below hb13) (by simp) rfl
    refine seg cfg4_ok mixed PanicFree.body 1000 [] [(76, true), (79, true)] h13 (by first | trivial | exact HpRep.nil | assumption) (by kernel_rfl) fun s_ hs_ => ?_
    simp (maxSteps := 10000000) [SX.vc, SX.stop, SX.contS, SX.contB, SX.contW, SX.contR, SX.contD, SX.sxStep, SX.stepPure, SX.stepNew, SX.stepStore, SX.stepKeep, SX.guardIx, SX.evOp, SX.opd, SX.opds, SX.optOpd, SX.look, SX.putS, SX.gobs, SX.AllP, SX.leave, SX.lookC, SX.lookB, SX.lookT, SX.lookN, SX.findK, SX.evBuiltin, SX.ints, SX.foldI, SX.evBin, SX.evInt, SX.evStr, SX.evEq, SX.arith, SX.evLoad, SX.shapeUp, SX.evFieldAddr, SX.evField, SX.evIndexAddr, SX.evIndex, SX.evFill, SX.evBuild, SX.szs, SX.cellsV, SX.evNew, SX.evStore, SX.spliceL, SX.SV.cells, SX.evConv, SX.evSlice, SX.bnd, SX.evNil, SX.evUn, SX.evPick, SX.pickOpd, SX.popTo, SX.cnd, SX.env0, SX.TD.isAgg, SX.TD.isIface, SX.tails, SX.NotAgg, SX.evLookup, SX.evConvH, SX.evPtrEq, SX.isCells, SX.thaw, SX.frz, SX.fixB, SX.rootIx, SX.Froz, SX.frzStep, SX.fork, Go.Value.cells, Go.undef, cfg4]
    refine ⟨by (unfold SX.Ob; first | trivial | omega | ((try simp only [SX.inK]); (try simp [SX.den, SX.IsU8, SX.AllP, *]); (try omega))), ?_⟩
    intro a14 w14 hr14 _
    exact post_retn (end1 hr14 rfl rfl ⟨rfl, hr14.keeps.toBelow⟩).1
  | some q =>
    have hback := numL_back hns
    have hq : q ≤ 9223372036854775807 := by
      unfold numL at hns
      split at hns
      · cases hns
      · split at hns
        · split at hns
          · cases hns; omega
          · cases hns
        · cases hns
    refine post_call 10 [.v (.string (Script.B s))] hr12 (by first | exact wanted_none rfl | exact wanted_zero (hr12.env.same rfl rfl rfl rfl) rfl (by simp) | exact wanted_zero (hr12.env.same rfl rfl rfl rfl) rfl (by simp [*])) rfl (callable 10 Tryd.func10) (number_some w12 s q hns) ?_
    rintro e13 w13 ⟨rfl, hb13⟩
    refine ⟨_, rfl, ?_⟩
    have h13 := hr12.ret hb13 72 (.tu [.v (.int .i64 q), .v (.bool true)]) rfl _ (hr12.all.below hb13) (by simp) rfl
    refine seg cfg4_ok mixed PanicFree.body 1000 [] [(76, true), (79, false)] h13 (by first | trivial | exact HpRep.nil | assumption) (by kernel_rfl) fun s_ hs_ => ?_
    simp (maxSteps := 10000000) [SX.vc, SX.stop, SX.contS, SX.contB, SX.contW, SX.contR, SX.contD, SX.sxStep, SX.stepPure, SX.stepNew, SX.stepStore, SX.stepKeep, SX.guardIx, SX.evOp, SX.opd, SX.opds, SX.optOpd, SX.look, SX.putS, SX.gobs, SX.AllP, SX.leave, SX.lookC, SX.lookB, SX.lookT, SX.lookN, SX.findK, SX.evBuiltin, SX.ints, SX.foldI, SX.evBin, SX.evInt, SX.evStr, SX.evEq, SX.arith, SX.evLoad, SX.shapeUp, SX.evFieldAddr, SX.evField, SX.evIndexAddr, SX.evIndex, SX.evFill, SX.evBuild, SX.szs, SX.cellsV, SX.evNew, SX.evStore, SX.spliceL, SX.SV.cells, SX.evConv, SX.evSlice, SX.bnd, SX.evNil, SX.evUn, SX.evPick, SX.pickOpd, SX.popTo, SX.cnd, SX.env0, SX.TD.isAgg, SX.TD.isIface, SX.tails, SX.NotAgg, SX.evLookup, SX.evConvH, SX.evPtrEq, SX.isCells, SX.thaw, SX.frz, SX.fixB, SX.rootIx, SX.Froz, SX.frzStep, SX.fork, Go.Value.cells, Go.undef, cfg4]
    refine ⟨by (unfold SX.Ob; first | trivial | omega | ((try simp only [SX.inK]); (try simp [SX.den, SX.IsU8, SX.AllP, *]); (try omega))), ?_⟩
    intro a14 w14 hr14 _
    have hdg := digits_ok q w14 hq
    rw [hback] at hdg
    refine post_call 9 [.v (.int .i64 q)] hr14 (by first | exact wanted_zero (hr14.env.same rfl rfl rfl rfl) rfl (by simp)) rfl (callable 9 Tryd.func9) hdg ?_
    rintro e15 w15 ⟨rfl, hb15⟩
    refine ⟨_, rfl, ?_⟩
    have h15 := hr14.ret hb15 81 (.v (.string (Script.B s))) rfl _ (hr14.all.below hb15) (by simp) rfl
    refine seg cfg4_ok mixed PanicFree.body 1000 [] [(76, true), (79, false)] h15 (by first | trivial | exact HpRep.nil | assumption) (by kernel_rfl) fun s_ hs_ => ?_
    simp (maxSteps := 10000000) [SX.vc, SX.stop, SX.contS, SX.contB, SX.contW, SX.contR, SX.contD, SX.sxStep, SX.stepPure, SX.stepNew, SX.stepStore, SX.stepKeep, SX.guardIx, SX.evOp, SX.opd, SX.opds, SX.optOpd, SX.look, SX.putS, SX.gobs, SX.AllP, SX.leave, SX.lookC, SX.lookB, SX.lookT, SX.lookN, SX.findK, SX.evBuiltin, SX.ints, SX.foldI, SX.evBin, SX.evInt, SX.evStr, SX.evEq, SX.arith, SX.evLoad, SX.shapeUp, SX.evFieldAddr, SX.evField, SX.evIndexAddr, SX.evIndex, SX.evFill, SX.evBuild, SX.szs, SX.cellsV, SX.evNew, SX.evStore, SX.spliceL, SX.SV.cells, SX.evConv, SX.evSlice, SX.bnd, SX.evNil, SX.evUn, SX.evPick, SX.pickOpd, SX.popTo, SX.cnd, SX.env0, SX.TD.isAgg, SX.TD.isIface, SX.tails, SX.NotAgg, SX.evLookup, SX.evConvH, SX.evPtrEq, SX.isCells, SX.thaw, SX.frz, SX.fixB, SX.rootIx, SX.Froz, SX.frzStep, SX.fork, Go.Value.cells, Go.undef, cfg4, BtoList]
    refine ⟨by (unfold SX.Ob; first | trivial | omega | ((try simp only [SX.inK]); (try simp [SX.den, SX.IsU8, SX.AllP, *]); (try omega))), ?_⟩
    intro a16 w16 hr16 _
    exact post_retn (end1 hr16 rfl rfl ⟨rfl, hr16.keeps.toBelow⟩).1
end Go.Proofs
