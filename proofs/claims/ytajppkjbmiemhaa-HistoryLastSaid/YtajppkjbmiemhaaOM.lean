/- The example; few. -/
import Derived.Test.YtajppkjbmiemhaaOJ
namespace Go.Proofs
set_option linter.unusedVariables false
set_option linter.unusedSimpArgs false
set_option linter.unusedSectionVars false
open Go Go.SX Go.RowKit Go.Hist

theorem callable7 : Callable Try.prog 7 := ⟨Try.f7, Try.func7, by kernel_rfl, by kernel_rfl⟩
theorem callable8 : Callable Try.prog 8 := ⟨Try.f8, Try.func8, by kernel_rfl, by kernel_rfl⟩
theorem callable9 : Callable Try.prog 9 := ⟨Try.f9, Try.func9, by kernel_rfl, by kernel_rfl⟩

def lit1 : Nat → HEv := fun j => [⟨0, 3, false, 1, 7⟩, ⟨0, 3, true, 1, 7⟩].getD j zeroEv
def lit2 : Nat → HEv := fun j => [⟨0, 3, true, 1, 7⟩].getD j zeroEv

set_option maxRecDepth 100000 in
set_option maxHeartbeats 4000000 in
theorem live_ok (w : World) : Calls Try.prog 7 (denL []).toArray w fun e w' => e = .returned (den (.v (.bool true))) ∧ Below w.heap.size w w' := by
  refine enter (F := frame0 w) Try.func7 rfl [] [] (by simp [Try.f7]) trivial (keeps0 w) fun a hr => ?_
  refine seg cfg7_ok mixed PanicFree.body 1000 [] [] hr (by first | trivial | exact HpRep.nil | assumption) (by kernel_rfl) fun s_ hs_ => ?_
  simp (maxSteps := 10000000) [SX.vc, SX.stop, SX.contS, SX.contB, SX.contW, SX.contR, SX.contD, SX.sxStep, SX.stepPure, SX.stepNew, SX.stepStore, SX.stepKeep, SX.guardIx, SX.evOp, SX.opd, SX.opds, SX.optOpd, SX.look, SX.putS, SX.gobs, SX.AllP, SX.leave, SX.lookC, SX.lookB, SX.lookT, SX.lookN, SX.findK, SX.evBuiltin, SX.ints, SX.foldI, SX.evBin, SX.evInt, SX.evStr, SX.evEq, SX.arith, SX.evLoad, SX.shapeUp, SX.evFieldAddr, SX.evField, SX.evIndexAddr, SX.evIndex, SX.evFill, SX.evBuild, SX.szs, SX.cellsV, SX.evNew, SX.evStore, SX.spliceL, SX.SV.cells, SX.evConv, SX.evSlice, SX.bnd, SX.evNil, SX.evUn, SX.evPick, SX.pickOpd, SX.popTo, SX.cnd, SX.env0, SX.TD.isAgg, SX.TD.isIface, SX.tails, SX.NotAgg, SX.evLookup, SX.evConvH, SX.evPtrEq, SX.isCells, SX.thaw, SX.frz, SX.fixB, SX.rootIx, SX.Froz, SX.frzStep, SX.fork, Go.Value.cells, Go.undef, cfg7, Try.f7]
  refine ⟨by (unfold SX.Ob; first | trivial | omega | ((try simp only [SX.inK]); (try simp [SX.den, SX.IsU8, SX.AllP, *]); (try omega))), ?_⟩
  intro a1 w1 hr1 _
  refine post_call 9 [.sl 0 s_ 0 0 2 2 5] hr1 (wanted_none rfl) rfl callable9 (judge_ok w1 0 s_ 0 2 2 2 lit1 _ _ (rep_arr_sub hr1.all.1.1 (Nat.le_refl _) fun j hj => by
    match j, hj with
    | 0, _ => rfl
    | 1, _ => rfl) (by omega) (by omega)) ?_
  rintro e w2 ⟨k, ok, rfl, hbel, ht, hf⟩
  refine ⟨_, rfl, ?_⟩
  have h2 := hr1.ret hbel 9 (.tu [.v (.int .i64 k), .v (.bool ok)]) rfl _ (hr1.all.below hbel) (by simp) rfl
  obtain ⟨rfl, rfl⟩ : k = 2 ∧ ok = true := by
    cases ok with
    | true => exact ⟨(ht rfl).1, rfl⟩
    | false =>
      obtain ⟨h1, h3, _⟩ := hf rfl
      match k, h1 with
      | 0, _ => exact absurd h3 (by decide)
      | 1, _ => exact absurd h3 (by decide)
  clear ht hf
  refine seg cfg7_ok mixed PanicFree.body 1000 [] [] h2 (by first | trivial | exact HpRep.nil | assumption) (by kernel_rfl) fun s_ hs_ => ?_
  simp (maxSteps := 10000000) [SX.vc, SX.stop, SX.contS, SX.contB, SX.contW, SX.contR, SX.contD, SX.sxStep, SX.stepPure, SX.stepNew, SX.stepStore, SX.stepKeep, SX.guardIx, SX.evOp, SX.opd, SX.opds, SX.optOpd, SX.look, SX.putS, SX.gobs, SX.AllP, SX.leave, SX.lookC, SX.lookB, SX.lookT, SX.lookN, SX.findK, SX.evBuiltin, SX.ints, SX.foldI, SX.evBin, SX.evInt, SX.evStr, SX.evEq, SX.arith, SX.evLoad, SX.shapeUp, SX.evFieldAddr, SX.evField, SX.evIndexAddr, SX.evIndex, SX.evFill, SX.evBuild, SX.szs, SX.cellsV, SX.evNew, SX.evStore, SX.spliceL, SX.SV.cells, SX.evConv, SX.evSlice, SX.bnd, SX.evNil, SX.evUn, SX.evPick, SX.pickOpd, SX.popTo, SX.cnd, SX.env0, SX.TD.isAgg, SX.TD.isIface, SX.tails, SX.NotAgg, SX.evLookup, SX.evConvH, SX.evPtrEq, SX.isCells, SX.thaw, SX.frz, SX.fixB, SX.rootIx, SX.Froz, SX.frzStep, SX.fork, Go.Value.cells, Go.undef, cfg7]
  refine ⟨by (unfold SX.Ob; first | trivial | omega | ((try simp only [SX.inK]); (try simp [SX.den, SX.IsU8, SX.AllP, *]); (try omega))), ?_⟩
  intro a3 w3 hr3 _
  refine post_call 9 [.sl 1 s_ 0 0 1 1 5] hr3 (wanted_none rfl) rfl callable9 (judge_ok w3 1 s_ 0 1 1 1 lit2 _ _ (rep_arr_sub hr3.all.2.1.1 (Nat.le_refl _) fun j hj => by
    match j, hj with
    | 0, _ => rfl) (by omega) (by omega)) ?_
  rintro e w4 ⟨k, ok, rfl, hbel2, ht, hf⟩
  refine ⟨_, rfl, ?_⟩
  have h4 := hr3.ret hbel2 15 (.tu [.v (.int .i64 k), .v (.bool ok)]) rfl _ (hr3.all.below hbel2) (by simp) rfl
  obtain ⟨rfl, rfl⟩ : k = 0 ∧ ok = false := by
    cases ok with
    | true => exact absurd ((ht rfl).2 0 (by omega)) (by decide)
    | false =>
      obtain ⟨h1, h3, _⟩ := hf rfl
      exact ⟨by omega, rfl⟩
  clear ht hf
  refine seg cfg7_ok mixed PanicFree.body 1000 [] [] h4 (by first | trivial | exact HpRep.nil | assumption) (by kernel_rfl) fun s_ hs_ => ?_
  simp (maxSteps := 10000000) [SX.vc, SX.stop, SX.contS, SX.contB, SX.contW, SX.contR, SX.contD, SX.sxStep, SX.stepPure, SX.stepNew, SX.stepStore, SX.stepKeep, SX.guardIx, SX.evOp, SX.opd, SX.opds, SX.optOpd, SX.look, SX.putS, SX.gobs, SX.AllP, SX.leave, SX.lookC, SX.lookB, SX.lookT, SX.lookN, SX.findK, SX.evBuiltin, SX.ints, SX.foldI, SX.evBin, SX.evInt, SX.evStr, SX.evEq, SX.arith, SX.evLoad, SX.shapeUp, SX.evFieldAddr, SX.evField, SX.evIndexAddr, SX.evIndex, SX.evFill, SX.evBuild, SX.szs, SX.cellsV, SX.evNew, SX.evStore, SX.spliceL, SX.SV.cells, SX.evConv, SX.evSlice, SX.bnd, SX.evNil, SX.evUn, SX.evPick, SX.pickOpd, SX.popTo, SX.cnd, SX.env0, SX.TD.isAgg, SX.TD.isIface, SX.tails, SX.NotAgg, SX.evLookup, SX.evConvH, SX.evPtrEq, SX.isCells, SX.thaw, SX.frz, SX.fixB, SX.rootIx, SX.Froz, SX.frzStep, SX.fork, Go.Value.cells, Go.undef, cfg7]
  refine ⟨by (unfold SX.Ob; first | trivial | omega | ((try simp only [SX.inK]); (try simp [SX.den, SX.IsU8, SX.AllP, *]); (try omega))), ?_⟩
  intro a5 w5 hr5 _
  exact post_retn (end1 hr5 rfl rfl ⟨rfl, hr5.keeps.toBelow⟩).1

def FewLoop (w : World) (b cap : Nat) (ad : Option Addr) (ln cp : Nat) (fz : Nat × Nat) (m : Nat) (a : Act) (w' : World) : Prop :=
  ∃ k : Nat, m = 1 - k ∧ k ≤ 1 ∧ RepX (frame0 w) ⟨[(8, 0, .v (.int .i64 k)), (7, 0, .v (.int .i64 1)), (6, 0, .sl 0 b 0 0 1 cap 1), (3, 0, .v (.int .i64 (k * (ln + 1))))], [(b, false, .arr 0 1 (fun _ => [.v (.slice ad ln cp)]) 1 22 fz)], 0, 0, 20, [], [], []⟩ a w'

set_option maxHeartbeats 4000000 in
theorem few1_ok (w : World) (i b : Nat) (cap : Nat) (row : Nat → List SV) (ad : Option Addr) (ln cp : Nat) (fz : Nat × Nat) (hb : SO.rep w b (.arr 0 1 row 1 22 fz)) (hrow : denL (row 0) = [.slice ad ln cp]) (hl : ln ≤ 1000000000000000000) :
    Calls Try.prog 8 (denL [.sl i b 0 0 1 cap 1]).toArray w fun e w' => e = .returned (den (.v (.bool (decide (ln ≤ 399))))) ∧ Below w.heap.size w w' := by
  have hb' : SO.rep w b (.arr 0 1 (fun _ => [.v (.slice ad ln cp)]) 1 22 fz) := rep_arr_sub hb (Nat.le_refl _) fun j hj => by obtain rfl : j = 0 := by omega
                                                                                                                              exact hrow
  have hE : HpAll (frame0 w) w [(b, false, .arr 0 1 (fun _ => [.v (.slice ad ln cp)]) 1 22 fz)] := ⟨⟨hb', by simp, by simp⟩, trivial⟩
  refine enter (F := frame0 w) Try.func8 rfl [.sl 0 b 0 0 1 cap 1] [(b, false, .arr 0 1 (fun _ => [.v (.slice ad ln cp)]) 1 22 fz)] (by simp [Try.f8]) hE (keeps0 w) fun a hr => ?_
  refine seg cfg8_ok mixed PanicFree.body 1000 [] [] hr (by first | trivial | exact HpRep.nil | assumption) (by kernel_rfl) fun s_ hs_ => ?_
  simp (maxSteps := 10000000) [SX.vc, SX.stop, SX.contS, SX.contB, SX.contW, SX.contR, SX.contD, SX.sxStep, SX.stepPure, SX.stepNew, SX.stepStore, SX.stepKeep, SX.guardIx, SX.evOp, SX.opd, SX.opds, SX.optOpd, SX.look, SX.putS, SX.gobs, SX.AllP, SX.leave, SX.lookC, SX.lookB, SX.lookT, SX.lookN, SX.findK, SX.evBuiltin, SX.ints, SX.foldI, SX.evBin, SX.evInt, SX.evStr, SX.evEq, SX.arith, SX.evLoad, SX.shapeUp, SX.evFieldAddr, SX.evField, SX.evIndexAddr, SX.evIndex, SX.evFill, SX.evBuild, SX.szs, SX.cellsV, SX.evNew, SX.evStore, SX.spliceL, SX.SV.cells, SX.evConv, SX.evSlice, SX.bnd, SX.evNil, SX.evUn, SX.evPick, SX.pickOpd, SX.popTo, SX.cnd, SX.env0, SX.TD.isAgg, SX.TD.isIface, SX.tails, SX.NotAgg, SX.evLookup, SX.evConvH, SX.evPtrEq, SX.isCells, SX.thaw, SX.frz, SX.fixB, SX.rootIx, SX.Froz, SX.frzStep, SX.fork, Go.Value.cells, Go.undef, cfg8, Try.f8]
  refine ⟨by (unfold SX.Ob; first | trivial | omega | ((try simp only [SX.inK]); (try simp [SX.den, SX.IsU8, SX.AllP, *]); (try omega))), ?_⟩
  intro a1 w1 hr1 _
  refine post_loop (FewLoop w b cap ad ln cp fz) 1 ⟨0, rfl, by omega, hr1.re (by simp [envTo, SX.look]) hr1.all rfl rfl⟩ ?_
  rintro m a2 w2 ⟨k, rfl, hk, hr2⟩
  by_cases hlt : k < 1
  · obtain rfl : k = 0 := by omega
    refine seg cfg8_ok mixed PanicFree.body 1000 [true] [] hr2 (by first | trivial | exact HpRep.nil | assumption) (by kernel_rfl) fun s_ hs_ => ?_
    simp (maxSteps := 10000000) [SX.vc, SX.stop, SX.contS, SX.contB, SX.contW, SX.contR, SX.contD, SX.sxStep, SX.stepPure, SX.stepNew, SX.stepStore, SX.stepKeep, SX.guardIx, SX.evOp, SX.opd, SX.opds, SX.optOpd, SX.look, SX.putS, SX.gobs, SX.AllP, SX.leave, SX.lookC, SX.lookB, SX.lookT, SX.lookN, SX.findK, SX.evBuiltin, SX.ints, SX.foldI, SX.evBin, SX.evInt, SX.evStr, SX.evEq, SX.arith, SX.evLoad, SX.shapeUp, SX.evFieldAddr, SX.evField, SX.evIndexAddr, SX.evIndex, SX.evFill, SX.evBuild, SX.szs, SX.cellsV, SX.evNew, SX.evStore, SX.spliceL, SX.SV.cells, SX.evConv, SX.evSlice, SX.bnd, SX.evNil, SX.evUn, SX.evPick, SX.pickOpd, SX.popTo, SX.cnd, SX.env0, SX.TD.isAgg, SX.TD.isIface, SX.tails, SX.NotAgg, SX.evLookup, SX.evConvH, SX.evPtrEq, SX.isCells, SX.thaw, SX.frz, SX.fixB, SX.rootIx, SX.Froz, SX.frzStep, SX.fork, Go.Value.cells, Go.undef, cfg8]
    refine ⟨by (unfold SX.Ob; first | trivial | omega | ((try simp only [SX.inK]); (try simp [SX.den, SX.IsU8, SX.AllP, *]); (try omega))), ?_⟩
    intro a3 w3 hr3 _
    exact post_rnd 0 (by omega) ⟨1, by omega, by omega, hr3.re (by simp [envTo, SX.look, den]) hr3.all rfl rfl⟩
  · obtain rfl : k = 1 := by omega
    refine seg cfg8_ok mixed PanicFree.body 1000 [false] [] hr2 (by first | trivial | exact HpRep.nil | assumption) (by kernel_rfl) fun s_ hs_ => ?_
    simp (maxSteps := 10000000) [SX.vc, SX.stop, SX.contS, SX.contB, SX.contW, SX.contR, SX.contD, SX.sxStep, SX.stepPure, SX.stepNew, SX.stepStore, SX.stepKeep, SX.guardIx, SX.evOp, SX.opd, SX.opds, SX.optOpd, SX.look, SX.putS, SX.gobs, SX.AllP, SX.leave, SX.lookC, SX.lookB, SX.lookT, SX.lookN, SX.findK, SX.evBuiltin, SX.ints, SX.foldI, SX.evBin, SX.evInt, SX.evStr, SX.evEq, SX.arith, SX.evLoad, SX.shapeUp, SX.evFieldAddr, SX.evField, SX.evIndexAddr, SX.evIndex, SX.evFill, SX.evBuild, SX.szs, SX.cellsV, SX.evNew, SX.evStore, SX.spliceL, SX.SV.cells, SX.evConv, SX.evSlice, SX.bnd, SX.evNil, SX.evUn, SX.evPick, SX.pickOpd, SX.popTo, SX.cnd, SX.env0, SX.TD.isAgg, SX.TD.isIface, SX.tails, SX.NotAgg, SX.evLookup, SX.evConvH, SX.evPtrEq, SX.isCells, SX.thaw, SX.frz, SX.fixB, SX.rootIx, SX.Froz, SX.frzStep, SX.fork, Go.Value.cells, Go.undef, cfg8]
    refine ⟨by (unfold SX.Ob; first | trivial | omega | ((try simp only [SX.inK]); (try simp [SX.den, SX.IsU8, SX.AllP, *]); (try omega))), ?_⟩
    intro a3 w3 hr3 _
    exact post_retn (end1 hr3 rfl rfl ⟨by simp [den]; omega, hr3.keeps.toBelow⟩).1
end Go.Proofs
