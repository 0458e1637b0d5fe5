/- The law HistoryBends, walked. -/
import Derived.Test.YtajppkjbmiemhaaHJ
namespace Go.Proofs
set_option linter.unusedVariables false
set_option linter.unusedSimpArgs false
open Go Go.SX Go.RowKit Go.Hist

theorem rep_arr_sub {w : World} {b o0 N n : Nat} {row row' : Nat → List SV} {sz : Nat} {u : TypeId} {fz : Nat × Nat} (h : (SO.arr o0 N row sz u fz).rep w b) (hn : n ≤ N) (hr : ∀ j, j < n → denL (row j) = denL (row' j)) : (SO.arr o0 n row' sz u fz).rep w b := by
  obtain ⟨c, h1, h2, h3⟩ := h
  have := Nat.mul_le_mul_right sz hn
  refine ⟨c, h1, by omega, fun j hj => ?_⟩
  obtain ⟨h4, h5⟩ := h3 j (by omega)
  have h6 := hr j hj
  have h7 : (denL (row j)).length = (denL (row' j)).length := by rw [h6]
  rw [denL_length, denL_length] at h7
  exact ⟨by omega, fun s hs => by rw [← h6]; exact h5 s hs⟩

theorem callable7 : Callable Try.prog 7 := ⟨Try.f7, Try.func7, by kernel_rfl, by kernel_rfl⟩
theorem callable8 : Callable Try.prog 8 := ⟨Try.f8, Try.func8, by kernel_rfl, by kernel_rfl⟩
theorem callable9 : Callable Try.prog 9 := ⟨Try.f9, Try.func9, by kernel_rfl, by kernel_rfl⟩

def lit1 : Nat → HEv := fun j => [⟨0, 3, false, 1, 7⟩, ⟨0, 3, true, 1, 7⟩].getD j zeroEv
def lit2 : Nat → HEv := fun j => [⟨0, 3, true, 1, 7⟩].getD j zeroEv

set_option maxRecDepth 100000 in
set_option maxHeartbeats 4000000 in
theorem live_ok (w : World) : Calls Try.prog 7 (denL []).toArray w fun e w' => e = .returned (den (.v (.bool true))) ∧ Below w.heap.size w w' := by
  refine enter (F := frame0 w) Try.func7 rfl [] [] (by simp [Try.f7]) trivial (keeps0 w) fun a hr => ?_
  refine seg cfg7_ok mixed PanicFree.body 1000 [] [] hr trivial (by kernel_rfl) fun s_ hs_ => ?_
  simp [SX.vc, SX.stop, SX.contS, SX.contB, SX.contW, SX.contR, SX.contD, SX.sxStep, SX.stepPure, SX.stepNew, SX.stepStore, SX.stepKeep, SX.guardIx, SX.evOp, SX.opd, SX.opds, SX.optOpd, SX.look, SX.putS, SX.gobs, SX.AllP, SX.leave, SX.lookC, SX.lookB, SX.lookT, SX.lookN, SX.findK, SX.evBuiltin, SX.ints, SX.foldI, SX.evBin, SX.evInt, SX.evStr, SX.evEq, SX.arith, SX.evLoad, SX.shapeUp, SX.evFieldAddr, SX.evField, SX.evIndexAddr, SX.evIndex, SX.evFill, SX.evBuild, SX.szs, SX.cellsV, SX.evNew, SX.evStore, SX.spliceL, SX.SV.cells, SX.evConv, SX.evSlice, SX.bnd, SX.evNil, SX.evUn, SX.evPick, SX.pickOpd, SX.popTo, SX.cnd, SX.env0, SX.TD.isAgg, SX.TD.isIface, SX.tails, SX.NotAgg, SX.evLookup, Go.Value.cells, cfg7, Try.f7]
  refine ⟨by (unfold SX.Ob; first | trivial | omega | ((try simp only [SX.inK]); (try simp [SX.den, *]); (try omega))), ?_⟩
  intro a1 w1 hr1 _
  refine post_call 9 [.sl 0 s_ 0 0 2 2 5] hr1 (wanted_none rfl) rfl callable9 (judge_ok w1 0 s_ 0 2 2 2 lit1 _ _ (rep_arr_sub hr1.all.1.1 (Nat.le_refl _) fun j hj => by
    match j, hj with
    | 0, _ => rfl
    | 1, _ => rfl) (by omega) (by omega)) ?_
  rintro e w2 ⟨k, ok, rfl, hbel, ht, hf⟩
  refine ⟨_, rfl, ?_⟩
  have h2 := hr1.ret hbel 9 (.tu [.v (.int .i64 k), .v (.bool ok)]) rfl _ (hr1.all.below hbel) (by simp) rfl
  obtain ⟨rfl, rfl⟩ : k = 2 ∧ ok = true := by
    cases ok with
    | true => exact ⟨(ht rfl).1, rfl⟩
    | false =>
      obtain ⟨h1, h3, _⟩ := hf rfl
      match k, h1 with
      | 0, _ => exact absurd h3 (by decide)
      | 1, _ => exact absurd h3 (by decide)
  clear ht hf
  refine seg cfg7_ok mixed PanicFree.body 1000 [] [] h2 trivial (by kernel_rfl) fun s_ hs_ => ?_
  simp [SX.vc, SX.stop, SX.contS, SX.contB, SX.contW, SX.contR, SX.contD, SX.sxStep, SX.stepPure, SX.stepNew, SX.stepStore, SX.stepKeep, SX.guardIx, SX.evOp, SX.opd, SX.opds, SX.optOpd, SX.look, SX.putS, SX.gobs, SX.AllP, SX.leave, SX.lookC, SX.lookB, SX.lookT, SX.lookN, SX.findK, SX.evBuiltin, SX.ints, SX.foldI, SX.evBin, SX.evInt, SX.evStr, SX.evEq, SX.arith, SX.evLoad, SX.shapeUp, SX.evFieldAddr, SX.evField, SX.evIndexAddr, SX.evIndex, SX.evFill, SX.evBuild, SX.szs, SX.cellsV, SX.evNew, SX.evStore, SX.spliceL, SX.SV.cells, SX.evConv, SX.evSlice, SX.bnd, SX.evNil, SX.evUn, SX.evPick, SX.pickOpd, SX.popTo, SX.cnd, SX.env0, SX.TD.isAgg, SX.TD.isIface, SX.tails, SX.NotAgg, SX.evLookup, Go.Value.cells, cfg7]
  refine ⟨by (unfold SX.Ob; first | trivial | omega | ((try simp only [SX.inK]); (try simp [SX.den, *]); (try omega))), ?_⟩
  intro a3 w3 hr3 _
  refine post_call 9 [.sl 1 s_ 0 0 1 1 5] hr3 (wanted_none rfl) rfl callable9 (judge_ok w3 1 s_ 0 1 1 1 lit2 _ _ (rep_arr_sub hr3.all.2.1.1 (Nat.le_refl _) fun j hj => by
    match j, hj with
    | 0, _ => rfl) (by omega) (by omega)) ?_
  rintro e w4 ⟨k, ok, rfl, hbel2, ht, hf⟩
  refine ⟨_, rfl, ?_⟩
  have h4 := hr3.ret hbel2 15 (.tu [.v (.int .i64 k), .v (.bool ok)]) rfl _ (hr3.all.below hbel2) (by simp) rfl
  obtain ⟨rfl, rfl⟩ : k = 0 ∧ ok = false := by
    cases ok with
    | true => exact absurd ((ht rfl).2 0 (by omega)) (by decide)
    | false =>
      obtain ⟨h1, h3, _⟩ := hf rfl
      exact ⟨by omega, rfl⟩
  clear ht hf
  refine seg cfg7_ok mixed PanicFree.body 1000 [] [] h4 trivial (by kernel_rfl) fun s_ hs_ => ?_
  simp [SX.vc, SX.stop, SX.contS, SX.contB, SX.contW, SX.contR, SX.contD, SX.sxStep, SX.stepPure, SX.stepNew, SX.stepStore, SX.stepKeep, SX.guardIx, SX.evOp, SX.opd, SX.opds, SX.optOpd, SX.look, SX.putS, SX.gobs, SX.AllP, SX.leave, SX.lookC, SX.lookB, SX.lookT, SX.lookN, SX.findK, SX.evBuiltin, SX.ints, SX.foldI, SX.evBin, SX.evInt, SX.evStr, SX.evEq, SX.arith, SX.evLoad, SX.shapeUp, SX.evFieldAddr, SX.evField, SX.evIndexAddr, SX.evIndex, SX.evFill, SX.evBuild, SX.szs, SX.cellsV, SX.evNew, SX.evStore, SX.spliceL, SX.SV.cells, SX.evConv, SX.evSlice, SX.bnd, SX.evNil, SX.evUn, SX.evPick, SX.pickOpd, SX.popTo, SX.cnd, SX.env0, SX.TD.isAgg, SX.TD.isIface, SX.tails, SX.NotAgg, SX.evLookup, Go.Value.cells, cfg7]
  refine ⟨by (unfold SX.Ob; first | trivial | omega | ((try simp only [SX.inK]); (try simp [SX.den, *]); (try omega))), ?_⟩
  intro a5 w5 hr5 _
  exact post_retn (end1 hr5 rfl rfl ⟨rfl, hr5.keeps.toBelow⟩).1

def FewLoop (w : World) (b cap : Nat) (ad : Option Addr) (ln cp : Nat) (fz : Nat × Nat) (m : Nat) (a : Act) (w' : World) : Prop :=
  ∃ k : Nat, m = 1 - k ∧ k ≤ 1 ∧ RepX (frame0 w) ⟨[(8, 0, .v (.int .i64 k)), (7, 0, .v (.int .i64 1)), (6, 0, .sl 0 b 0 0 1 cap 1), (3, 0, .v (.int .i64 (k * (ln + 1))))], [(b, false, .arr 0 1 (fun _ => [.v (.slice ad ln cp)]) 1 22 fz)], 0, 0, 20, [], [], []⟩ a w'

set_option maxHeartbeats 4000000 in
theorem few1_ok (w : World) (i b : Nat) (cap : Nat) (row : Nat → List SV) (ad : Option Addr) (ln cp : Nat) (fz : Nat × Nat) (hb : SO.rep w b (.arr 0 1 row 1 22 fz)) (hrow : denL (row 0) = [.slice ad ln cp]) (hl : ln ≤ 1000000000000000000) :
    Calls Try.prog 8 (denL [.sl i b 0 0 1 cap 1]).toArray w fun e w' => e = .returned (den (.v (.bool (decide (ln ≤ 399))))) ∧ Below w.heap.size w w' := by
  have hb' : SO.rep w b (.arr 0 1 (fun _ => [.v (.slice ad ln cp)]) 1 22 fz) := rep_arr_sub hb (Nat.le_refl _) fun j hj => by obtain rfl : j = 0 := by omega
                                                                                                                              exact hrow
  have hE : HpAll (frame0 w) w [(b, false, .arr 0 1 (fun _ => [.v (.slice ad ln cp)]) 1 22 fz)] := ⟨⟨hb', by simp, by simp⟩, trivial⟩
  refine enter (F := frame0 w) Try.func8 rfl [.sl 0 b 0 0 1 cap 1] [(b, false, .arr 0 1 (fun _ => [.v (.slice ad ln cp)]) 1 22 fz)] (by simp [Try.f8]) hE (keeps0 w) fun a hr => ?_
  refine seg cfg8_ok mixed PanicFree.body 1000 [] [] hr trivial (by kernel_rfl) fun s_ hs_ => ?_
  simp [SX.vc, SX.stop, SX.contS, SX.contB, SX.contW, SX.contR, SX.contD, SX.sxStep, SX.stepPure, SX.stepNew, SX.stepStore, SX.stepKeep, SX.guardIx, SX.evOp, SX.opd, SX.opds, SX.optOpd, SX.look, SX.putS, SX.gobs, SX.AllP, SX.leave, SX.lookC, SX.lookB, SX.lookT, SX.lookN, SX.findK, SX.evBuiltin, SX.ints, SX.foldI, SX.evBin, SX.evInt, SX.evStr, SX.evEq, SX.arith, SX.evLoad, SX.shapeUp, SX.evFieldAddr, SX.evField, SX.evIndexAddr, SX.evIndex, SX.evFill, SX.evBuild, SX.szs, SX.cellsV, SX.evNew, SX.evStore, SX.spliceL, SX.SV.cells, SX.evConv, SX.evSlice, SX.bnd, SX.evNil, SX.evUn, SX.evPick, SX.pickOpd, SX.popTo, SX.cnd, SX.env0, SX.TD.isAgg, SX.TD.isIface, SX.tails, SX.NotAgg, SX.evLookup, Go.Value.cells, cfg8, Try.f8]
  refine ⟨by (unfold SX.Ob; first | trivial | omega | ((try simp only [SX.inK]); (try simp [SX.den, *]); (try omega))), ?_⟩
  intro a1 w1 hr1 _
  refine post_loop (FewLoop w b cap ad ln cp fz) 1 ⟨0, rfl, by omega, hr1.re (by simp [envTo, SX.look]) hr1.all rfl rfl⟩ ?_
  rintro m a2 w2 ⟨k, rfl, hk, hr2⟩
  by_cases hlt : k < 1
  · obtain rfl : k = 0 := by omega
    refine seg cfg8_ok mixed PanicFree.body 1000 [true] [] hr2 trivial (by kernel_rfl) fun s_ hs_ => ?_
    simp [SX.vc, SX.stop, SX.contS, SX.contB, SX.contW, SX.contR, SX.contD, SX.sxStep, SX.stepPure, SX.stepNew, SX.stepStore, SX.stepKeep, SX.guardIx, SX.evOp, SX.opd, SX.opds, SX.optOpd, SX.look, SX.putS, SX.gobs, SX.AllP, SX.leave, SX.lookC, SX.lookB, SX.lookT, SX.lookN, SX.findK, SX.evBuiltin, SX.ints, SX.foldI, SX.evBin, SX.evInt, SX.evStr, SX.evEq, SX.arith, SX.evLoad, SX.shapeUp, SX.evFieldAddr, SX.evField, SX.evIndexAddr, SX.evIndex, SX.evFill, SX.evBuild, SX.szs, SX.cellsV, SX.evNew, SX.evStore, SX.spliceL, SX.SV.cells, SX.evConv, SX.evSlice, SX.bnd, SX.evNil, SX.evUn, SX.evPick, SX.pickOpd, SX.popTo, SX.cnd, SX.env0, SX.TD.isAgg, SX.TD.isIface, SX.tails, SX.NotAgg, SX.evLookup, Go.Value.cells, cfg8]
    refine ⟨by (unfold SX.Ob; first | trivial | omega | ((try simp only [SX.inK]); (try simp [SX.den, *]); (try omega))), ?_⟩
    intro a3 w3 hr3 _
    exact post_rnd 0 (by omega) ⟨1, by omega, by omega, hr3.re (by simp [envTo, SX.look, den]) hr3.all rfl rfl⟩
  · obtain rfl : k = 1 := by omega
    refine seg cfg8_ok mixed PanicFree.body 1000 [false] [] hr2 trivial (by kernel_rfl) fun s_ hs_ => ?_
    simp [SX.vc, SX.stop, SX.contS, SX.contB, SX.contW, SX.contR, SX.contD, SX.sxStep, SX.stepPure, SX.stepNew, SX.stepStore, SX.stepKeep, SX.guardIx, SX.evOp, SX.opd, SX.opds, SX.optOpd, SX.look, SX.putS, SX.gobs, SX.AllP, SX.leave, SX.lookC, SX.lookB, SX.lookT, SX.lookN, SX.findK, SX.evBuiltin, SX.ints, SX.foldI, SX.evBin, SX.evInt, SX.evStr, SX.evEq, SX.arith, SX.evLoad, SX.shapeUp, SX.evFieldAddr, SX.evField, SX.evIndexAddr, SX.evIndex, SX.evFill, SX.evBuild, SX.szs, SX.cellsV, SX.evNew, SX.evStore, SX.spliceL, SX.SV.cells, SX.evConv, SX.evSlice, SX.bnd, SX.evNil, SX.evUn, SX.evPick, SX.pickOpd, SX.popTo, SX.cnd, SX.env0, SX.TD.isAgg, SX.TD.isIface, SX.tails, SX.NotAgg, SX.evLookup, Go.Value.cells, cfg8]
    refine ⟨by (unfold SX.Ob; first | trivial | omega | ((try simp only [SX.inK]); (try simp [SX.den, *]); (try omega))), ?_⟩
    intro a3 w3 hr3 _
    exact post_retn (end1 hr3 rfl rfl ⟨by simp [den]; omega, hr3.keeps.toBelow⟩).1

set_option maxRecDepth 100000 in
set_option maxHeartbeats 8000000 in
theorem bends_nil (w : World) (ad : Option Addr) (x y : Int) : Calls Try.prog 3 (denL [.v (.slice ad 0 0), .v (.int .i64 x), .v (.int .i64 y)]).toArray w fun e w' => e = .returned (den (.v (.bool true))) ∧ Below w.heap.size w w' := by
  refine enter (F := frame0 w) Try.func3 rfl [.v (.slice ad 0 0), .v (.int .i64 x), .v (.int .i64 y)] [] (by simp [Try.f3]) trivial (keeps0 w) fun a hr => ?_
  refine seg cfg3_ok mixed PanicFree.body 1000 [] [] hr trivial (by kernel_rfl) fun s_ hs_ => ?_
  simp [SX.vc, SX.stop, SX.contS, SX.contB, SX.contW, SX.contR, SX.contD, SX.sxStep, SX.stepPure, SX.stepNew, SX.stepStore, SX.stepKeep, SX.guardIx, SX.evOp, SX.opd, SX.opds, SX.optOpd, SX.look, SX.putS, SX.gobs, SX.AllP, SX.leave, SX.lookC, SX.lookB, SX.lookT, SX.lookN, SX.findK, SX.evBuiltin, SX.ints, SX.foldI, SX.evBin, SX.evInt, SX.evStr, SX.evEq, SX.arith, SX.evLoad, SX.shapeUp, SX.evFieldAddr, SX.evField, SX.evIndexAddr, SX.evIndex, SX.evFill, SX.evBuild, SX.szs, SX.cellsV, SX.evNew, SX.evStore, SX.spliceL, SX.SV.cells, SX.evConv, SX.evSlice, SX.bnd, SX.evNil, SX.evUn, SX.evPick, SX.pickOpd, SX.popTo, SX.cnd, SX.env0, SX.TD.isAgg, SX.TD.isIface, SX.tails, SX.NotAgg, SX.evLookup, Go.Value.cells, cfg3, Try.f3]
  refine ⟨by (unfold SX.Ob; first | trivial | omega | ((try simp only [SX.inK]); (try simp [SX.den, *]); (try omega))), ?_⟩
  intro a1 w1 hr1 _
  refine post_call 7 [] hr1 (wanted_none rfl) rfl callable7 (live_ok w1) ?_
  rintro e w2 ⟨rfl, hbel⟩
  refine ⟨_, rfl, ?_⟩
  have h2 := hr1.ret hbel 14 (.v (.bool true)) rfl _ (hr1.all.below hbel) (by simp) rfl
  refine seg cfg3_ok mixed PanicFree.body 1000 [] [] h2 trivial (by kernel_rfl) fun s_ hs_ => ?_
  simp [SX.vc, SX.stop, SX.contS, SX.contB, SX.contW, SX.contR, SX.contD, SX.sxStep, SX.stepPure, SX.stepNew, SX.stepStore, SX.stepKeep, SX.guardIx, SX.evOp, SX.opd, SX.opds, SX.optOpd, SX.look, SX.putS, SX.gobs, SX.AllP, SX.leave, SX.lookC, SX.lookB, SX.lookT, SX.lookN, SX.findK, SX.evBuiltin, SX.ints, SX.foldI, SX.evBin, SX.evInt, SX.evStr, SX.evEq, SX.arith, SX.evLoad, SX.shapeUp, SX.evFieldAddr, SX.evField, SX.evIndexAddr, SX.evIndex, SX.evFill, SX.evBuild, SX.szs, SX.cellsV, SX.evNew, SX.evStore, SX.spliceL, SX.SV.cells, SX.evConv, SX.evSlice, SX.bnd, SX.evNil, SX.evUn, SX.evPick, SX.pickOpd, SX.popTo, SX.cnd, SX.env0, SX.TD.isAgg, SX.TD.isIface, SX.tails, SX.NotAgg, SX.evLookup, Go.Value.cells, cfg3]
  refine ⟨by (unfold SX.Ob; first | trivial | omega | ((try simp only [SX.inK]); (try simp [SX.den, *]); (try omega))), ?_⟩
  intro a3 w3 hr3 _
  refine post_call 8 [.sl 0 s_ 0 0 1 1 1] hr3 (wanted_none rfl) rfl callable8 (few1_ok w3 0 s_ 1 _ ad 0 0 _ hr3.all.1.1 rfl (by omega)) ?_
  rintro e w4 ⟨rfl, hbel2⟩
  refine ⟨_, rfl, ?_⟩
  have h4 := hr3.ret hbel2 17 (.v (.bool (decide (0 ≤ 399)))) rfl _ (hr3.all.below hbel2) (by simp) rfl
  refine seg cfg3_ok mixed PanicFree.body 1000 [true] [] h4 trivial (by kernel_rfl) fun s_ hs_ => ?_
  simp [SX.vc, SX.stop, SX.contS, SX.contB, SX.contW, SX.contR, SX.contD, SX.sxStep, SX.stepPure, SX.stepNew, SX.stepStore, SX.stepKeep, SX.guardIx, SX.evOp, SX.opd, SX.opds, SX.optOpd, SX.look, SX.putS, SX.gobs, SX.AllP, SX.leave, SX.lookC, SX.lookB, SX.lookT, SX.lookN, SX.findK, SX.evBuiltin, SX.ints, SX.foldI, SX.evBin, SX.evInt, SX.evStr, SX.evEq, SX.arith, SX.evLoad, SX.shapeUp, SX.evFieldAddr, SX.evField, SX.evIndexAddr, SX.evIndex, SX.evFill, SX.evBuild, SX.szs, SX.cellsV, SX.evNew, SX.evStore, SX.spliceL, SX.SV.cells, SX.evConv, SX.evSlice, SX.bnd, SX.evNil, SX.evUn, SX.evPick, SX.pickOpd, SX.popTo, SX.cnd, SX.env0, SX.TD.isAgg, SX.TD.isIface, SX.tails, SX.NotAgg, SX.evLookup, Go.Value.cells, cfg3]
  refine ⟨by (unfold SX.Ob; first | trivial | omega | ((try simp only [SX.inK]); (try simp [SX.den, *]); (try omega))), ?_⟩
  intro a5 w5 hr5 _
  exact post_retn (end1 hr5 rfl rfl ⟨rfl, hr5.keeps.toBelow⟩).1

theorem tmod_bounds (x : Int) (k : Nat) (h : 0 < k) : -(k : Int) < x.tmod k ∧ x.tmod k < k :=
  ⟨Int.lt_tmod_of_pos x (by omega), Int.tmod_lt_of_pos x (by omega)⟩

theorem wrapped_idx (x : Int) (k : Nat) (h : 0 < k) : ∃ i : Nat, (x.tmod k + k).tmod k = i ∧ i < k := by
  have h1 := tmod_bounds x k h
  have h2 := tmod_bounds (x.tmod k + k) k h
  have h3 : 0 ≤ (x.tmod k + k).tmod k := Int.tmod_nonneg _ (by omega)
  exact ⟨((x.tmod k + k).tmod k).toNat, by omega, by omega⟩

theorem bent_at {f : Nat → HEv} {n i0 q : Nat} {e : HEv} {ok : Bool} (hb : okAt (upd f i0 e) i0 = false) (hok : ∀ j, j < n → okAt f j = true) (hi : i0 < n) (ht : ok = true → q = n ∧ ∀ j, j < n → okAt (upd f i0 e) j = true)
    (hf : ok = false → q < n ∧ okAt (upd f i0 e) q = false ∧ ∀ j, j < q → okAt (upd f i0 e) j = true) : q = i0 ∧ ok = false := by
  cases ok with
  | true => have := (ht rfl).2 i0 hi; rw [hb] at this; cases this
  | false =>
    obtain ⟨h1, h2, h3⟩ := hf rfl
    refine ⟨?_, rfl⟩
    rcases Nat.lt_trichotomy q i0 with h | h | h
    · rw [okAt_upd_lt h, hok q (by omega)] at h2; cases h2
    · exact h
    · rw [h3 i0 h] at hb; cases hb

theorem wrap_ne {v : Int} (h : inK v) : IntKind.i64.wrap (v + 1) ≠ v := by
  obtain ⟨h1, h2⟩ := h
  simp only [IntKind.wrap, IntKind.bits, IntKind.signed]
  simp
  split <;> omega

theorem wrap8_ne {v : Int} (h1 : 0 ≤ v) (h2 : v < 256) {y : Nat} (h3 : y < 255) : IntKind.u8.wrap (v + IntKind.u8.wrap (1 + y)) ≠ v := by
  simp only [IntKind.wrap, IntKind.bits, IntKind.signed]
  simp
  omega

def BLoop (f : Nat → HEv) (n b o0 N cap : Nat) (u : TypeId) (fz : Nat × Nat) (w : World) (y : Int) (i0 : Nat) (m : Nat) (a : Act) (w' : World) : Prop :=
  ∃ r : Nat, m = 2 - r ∧ r ≤ 2 ∧ RepX (frame0 w) ⟨[(43, 0, .v (.int .i64 r)), (7, 0, .v (.bool true)), (0, 0, .sl 0 b o0 0 n cap 5), (1, 0, .v (.int .i64 i0)), (2, 0, .v (.int .i64 y))], [(b, false, .arr o0 N (fun j => evRow (f j)) 5 u fz)], 0, 0, 104, [], [], []⟩ a w'

set_option maxRecDepth 100000 in
set_option maxHeartbeats 8000000 in
theorem bends_some (w : World) (x y : Int) (b o0 N n cap : Nat) (f : Nat → HEv) (u : TypeId) (fz : Nat × Nat) (hb : SO.rep w b (.arr o0 N (fun j => evRow (f j)) 5 u fz)) (hN : n ≤ N) (hn : n ≤ 100000000000000000)
    (hx : inK x) (hy : inK y) (hf : ∀ j, j < n → inK (f j).ver ∧ 0 ≤ (f j).by_ ∧ (f j).by_ < 256) :
    Calls Try.prog 3 (denL [.sl 0 b o0 0 n cap 5, .v (.int .i64 x), .v (.int .i64 y)]).toArray w fun e w' => e = .returned (den (.v (.bool true))) ∧ Below w.heap.size w w' := by
  have hE : HpAll (frame0 w) w [(b, false, .arr o0 N (fun j => evRow (f j)) 5 u fz)] := ⟨⟨hb, by simp, by simp⟩, trivial⟩
  refine enter (F := frame0 w) Try.func3 rfl [.sl 0 b o0 0 n cap 5, .v (.int .i64 x), .v (.int .i64 y)] [(b, false, .arr o0 N (fun j => evRow (f j)) 5 u fz)] (by simp [Try.f3]) hE (keeps0 w) fun a hr => ?_
  refine seg cfg3_ok mixed PanicFree.body 1000 [] [] hr trivial (by kernel_rfl) fun s_ hs_ => ?_
  simp [SX.vc, SX.stop, SX.contS, SX.contB, SX.contW, SX.contR, SX.contD, SX.sxStep, SX.stepPure, SX.stepNew, SX.stepStore, SX.stepKeep, SX.guardIx, SX.evOp, SX.opd, SX.opds, SX.optOpd, SX.look, SX.putS, SX.gobs, SX.AllP, SX.leave, SX.lookC, SX.lookB, SX.lookT, SX.lookN, SX.findK, SX.evBuiltin, SX.ints, SX.foldI, SX.evBin, SX.evInt, SX.evStr, SX.evEq, SX.arith, SX.evLoad, SX.shapeUp, SX.evFieldAddr, SX.evField, SX.evIndexAddr, SX.evIndex, SX.evFill, SX.evBuild, SX.szs, SX.cellsV, SX.evNew, SX.evStore, SX.spliceL, SX.SV.cells, SX.evConv, SX.evSlice, SX.bnd, SX.evNil, SX.evUn, SX.evPick, SX.pickOpd, SX.popTo, SX.cnd, SX.env0, SX.TD.isAgg, SX.TD.isIface, SX.tails, SX.NotAgg, SX.evLookup, Go.Value.cells, cfg3, Try.f3]
  refine ⟨by (unfold SX.Ob; first | trivial | omega | ((try simp only [SX.inK]); (try simp [SX.den, *]); (try omega))), ?_⟩
  intro a1 w1 hr1 _
  refine post_call 7 [] hr1 (wanted_none rfl) rfl callable7 (live_ok w1) ?_
  rintro e w2 ⟨rfl, hbel⟩
  refine ⟨_, rfl, ?_⟩
  have h2 := hr1.ret hbel 14 (.v (.bool true)) rfl _ (hr1.all.below hbel) (by simp) rfl
  refine seg cfg3_ok mixed PanicFree.body 1000 [] [] h2 trivial (by kernel_rfl) fun s_ hs_ => ?_
  simp [SX.vc, SX.stop, SX.contS, SX.contB, SX.contW, SX.contR, SX.contD, SX.sxStep, SX.stepPure, SX.stepNew, SX.stepStore, SX.stepKeep, SX.guardIx, SX.evOp, SX.opd, SX.opds, SX.optOpd, SX.look, SX.putS, SX.gobs, SX.AllP, SX.leave, SX.lookC, SX.lookB, SX.lookT, SX.lookN, SX.findK, SX.evBuiltin, SX.ints, SX.foldI, SX.evBin, SX.evInt, SX.evStr, SX.evEq, SX.arith, SX.evLoad, SX.shapeUp, SX.evFieldAddr, SX.evField, SX.evIndexAddr, SX.evIndex, SX.evFill, SX.evBuild, SX.szs, SX.cellsV, SX.evNew, SX.evStore, SX.spliceL, SX.SV.cells, SX.evConv, SX.evSlice, SX.bnd, SX.evNil, SX.evUn, SX.evPick, SX.pickOpd, SX.popTo, SX.cnd, SX.env0, SX.TD.isAgg, SX.TD.isIface, SX.tails, SX.NotAgg, SX.evLookup, Go.Value.cells, cfg3]
  refine ⟨by (unfold SX.Ob; first | trivial | omega | ((try simp only [SX.inK]); (try simp [SX.den, *]); (try omega))), ?_⟩
  intro a3 w3 hr3 _
  refine post_call 8 [.sl 1 s_ 0 0 1 1 1] hr3 (wanted_none rfl) rfl callable8 (few1_ok w3 1 s_ 1 _ (some ⟨b, o0 + 0 * 5, none⟩) n cap _ hr3.all.2.1.1 rfl (by omega)) ?_
  rintro e w4 ⟨rfl, hbel2⟩
  refine ⟨_, rfl, ?_⟩
  have h4 := hr3.ret hbel2 17 (.v (.bool (decide (n ≤ 399)))) rfl _ (hr3.all.below hbel2) (by simp) rfl
  by_cases hn4 : n ≤ 399
  · by_cases hn0 : n = 0
    · refine seg cfg3_ok mixed PanicFree.body 1000 [true] [] h4 trivial (by kernel_rfl) fun s_ hs_ => ?_
      simp [SX.vc, SX.stop, SX.contS, SX.contB, SX.contW, SX.contR, SX.contD, SX.sxStep, SX.stepPure, SX.stepNew, SX.stepStore, SX.stepKeep, SX.guardIx, SX.evOp, SX.opd, SX.opds, SX.optOpd, SX.look, SX.putS, SX.gobs, SX.AllP, SX.leave, SX.lookC, SX.lookB, SX.lookT, SX.lookN, SX.findK, SX.evBuiltin, SX.ints, SX.foldI, SX.evBin, SX.evInt, SX.evStr, SX.evEq, SX.arith, SX.evLoad, SX.shapeUp, SX.evFieldAddr, SX.evField, SX.evIndexAddr, SX.evIndex, SX.evFill, SX.evBuild, SX.szs, SX.cellsV, SX.evNew, SX.evStore, SX.spliceL, SX.SV.cells, SX.evConv, SX.evSlice, SX.bnd, SX.evNil, SX.evUn, SX.evPick, SX.pickOpd, SX.popTo, SX.cnd, SX.env0, SX.TD.isAgg, SX.TD.isIface, SX.tails, SX.NotAgg, SX.evLookup, Go.Value.cells, cfg3, hn4, hn0]
      refine ⟨by (unfold SX.Ob; first | trivial | omega | ((try simp only [SX.inK]); (try simp [SX.den, *]); (try omega))), ?_⟩
      intro a5 w5 hr5 _
      exact post_retn (end1 hr5 rfl rfl ⟨rfl, hr5.keeps.toBelow⟩).1
    · refine seg cfg3_ok mixed PanicFree.body 1000 [false] [] h4 trivial (by kernel_rfl) fun s_ hs_ => ?_
      simp [SX.vc, SX.stop, SX.contS, SX.contB, SX.contW, SX.contR, SX.contD, SX.sxStep, SX.stepPure, SX.stepNew, SX.stepStore, SX.stepKeep, SX.guardIx, SX.evOp, SX.opd, SX.opds, SX.optOpd, SX.look, SX.putS, SX.gobs, SX.AllP, SX.leave, SX.lookC, SX.lookB, SX.lookT, SX.lookN, SX.findK, SX.evBuiltin, SX.ints, SX.foldI, SX.evBin, SX.evInt, SX.evStr, SX.evEq, SX.arith, SX.evLoad, SX.shapeUp, SX.evFieldAddr, SX.evField, SX.evIndexAddr, SX.evIndex, SX.evFill, SX.evBuild, SX.szs, SX.cellsV, SX.evNew, SX.evStore, SX.spliceL, SX.SV.cells, SX.evConv, SX.evSlice, SX.bnd, SX.evNil, SX.evUn, SX.evPick, SX.pickOpd, SX.popTo, SX.cnd, SX.env0, SX.TD.isAgg, SX.TD.isIface, SX.tails, SX.NotAgg, SX.evLookup, Go.Value.cells, cfg3, hn4, hn0]
      refine ⟨by (unfold SX.Ob; first | trivial | omega | ((try simp only [SX.inK]); (try simp [SX.den, *]); (try omega))), ?_⟩
      intro a5 w5 hr5 _
      refine post_call 9 [.sl 0 b o0 0 n cap 5] hr5 (wanted_none rfl) rfl callable9 (judge_ok w5 0 b o0 N n cap f u fz hr5.all.1.1 hN (by omega)) ?_
      rintro e w6 ⟨k, ok, rfl, hbel3, ht, hf'⟩
      refine ⟨_, rfl, ?_⟩
      have h6 := hr5.ret hbel3 27 (.tu [.v (.int .i64 k), .v (.bool ok)]) rfl _ (hr5.all.below hbel3) (by simp) rfl
      cases ok with
      | false =>
        refine seg cfg3_ok mixed PanicFree.body 1000 [true] [] h6 trivial (by kernel_rfl) fun s_ hs_ => ?_
        simp [SX.vc, SX.stop, SX.contS, SX.contB, SX.contW, SX.contR, SX.contD, SX.sxStep, SX.stepPure, SX.stepNew, SX.stepStore, SX.stepKeep, SX.guardIx, SX.evOp, SX.opd, SX.opds, SX.optOpd, SX.look, SX.putS, SX.gobs, SX.AllP, SX.leave, SX.lookC, SX.lookB, SX.lookT, SX.lookN, SX.findK, SX.evBuiltin, SX.ints, SX.foldI, SX.evBin, SX.evInt, SX.evStr, SX.evEq, SX.arith, SX.evLoad, SX.shapeUp, SX.evFieldAddr, SX.evField, SX.evIndexAddr, SX.evIndex, SX.evFill, SX.evBuild, SX.szs, SX.cellsV, SX.evNew, SX.evStore, SX.spliceL, SX.SV.cells, SX.evConv, SX.evSlice, SX.bnd, SX.evNil, SX.evUn, SX.evPick, SX.pickOpd, SX.popTo, SX.cnd, SX.env0, SX.TD.isAgg, SX.TD.isIface, SX.tails, SX.NotAgg, SX.evLookup, Go.Value.cells, cfg3]
        refine ⟨by (unfold SX.Ob; first | trivial | omega | ((try simp only [SX.inK]); (try simp [SX.den, *]); (try omega))), ?_⟩
        intro a7 w7 hr7 _
        exact post_retn (end1 hr7 rfl rfl ⟨rfl, hr7.keeps.toBelow⟩).1
      | true =>
        obtain ⟨rfl, hok⟩ := ht rfl
        clear hf' ht
        obtain ⟨hx1, hx2⟩ := tmod_bounds x k (by omega)
        obtain ⟨i0, hi0, hi1⟩ := wrapped_idx x k (by omega)
        refine seg cfg3_ok mixed PanicFree.body 1000 [false] [] h6 trivial (by kernel_rfl) fun s_ hs_ => ?_
        simp [SX.vc, SX.stop, SX.contS, SX.contB, SX.contW, SX.contR, SX.contD, SX.sxStep, SX.stepPure, SX.stepNew, SX.stepStore, SX.stepKeep, SX.guardIx, SX.evOp, SX.opd, SX.opds, SX.optOpd, SX.look, SX.putS, SX.gobs, SX.AllP, SX.leave, SX.lookC, SX.lookB, SX.lookT, SX.lookN, SX.findK, SX.evBuiltin, SX.ints, SX.foldI, SX.evBin, SX.evInt, SX.evStr, SX.evEq, SX.arith, SX.evLoad, SX.shapeUp, SX.evFieldAddr, SX.evField, SX.evIndexAddr, SX.evIndex, SX.evFill, SX.evBuild, SX.szs, SX.cellsV, SX.evNew, SX.evStore, SX.spliceL, SX.SV.cells, SX.evConv, SX.evSlice, SX.bnd, SX.evNil, SX.evUn, SX.evPick, SX.pickOpd, SX.popTo, SX.cnd, SX.env0, SX.TD.isAgg, SX.TD.isIface, SX.tails, SX.NotAgg, SX.evLookup, Go.Value.cells, cfg3, hn0, hi0]
        refine ⟨by (unfold SX.Ob; first | trivial | omega | ((try simp only [SX.inK]); (try simp [SX.den, *]); (try omega))), ?_⟩
        intro a7 w7 hr7 _
        refine post_loop (BLoop f k b o0 N cap u fz w y i0) 2 ⟨0, rfl, by omega, hr7.re (by simp [envTo, SX.look]) ⟨⟨hr7.all.1.1, by simp, by simp⟩, trivial⟩ rfl rfl⟩ ?_
        rintro m a2 w2 ⟨r, rfl, hr, hr8⟩
        clear h2 h4 h6 hr1 hr3 hr5 hr7
        by_cases hlt : r < 2
        · refine seg cfg3_ok mixed PanicFree.body 1000 [true] [] hr8 trivial (by kernel_rfl) fun s_ hs_ => ?_
          simp [SX.vc, SX.stop, SX.contS, SX.contB, SX.contW, SX.contR, SX.contD, SX.sxStep, SX.stepPure, SX.stepNew, SX.stepStore, SX.stepKeep, SX.guardIx, SX.evOp, SX.opd, SX.opds, SX.optOpd, SX.look, SX.putS, SX.gobs, SX.AllP, SX.leave, SX.lookC, SX.lookB, SX.lookT, SX.lookN, SX.findK, SX.evBuiltin, SX.ints, SX.foldI, SX.evBin, SX.evInt, SX.evStr, SX.evEq, SX.arith, SX.evLoad, SX.shapeUp, SX.evFieldAddr, SX.evField, SX.evIndexAddr, SX.evIndex, SX.evFill, SX.evBuild, SX.szs, SX.cellsV, SX.evNew, SX.evStore, SX.spliceL, SX.SV.cells, SX.evConv, SX.evSlice, SX.bnd, SX.evNil, SX.evUn, SX.evPick, SX.pickOpd, SX.popTo, SX.cnd, SX.env0, SX.TD.isAgg, SX.TD.isIface, SX.tails, SX.NotAgg, SX.evLookup, Go.Value.cells, cfg3]
          refine ⟨by (unfold SX.Ob; first | trivial | omega | ((try simp only [SX.inK]); (try simp [SX.den, *]); (try omega))), ?_⟩
          intro a9 w9 hr9 _
          refine post_append cfg3_ok hr9 rfl (d := 47) rfl (by simp) rfl rfl (t := 22) (t' := 22) rfl rfl rfl rfl rfl rfl (by decide) (j := 0) rfl rfl (base2 := 0) (by omega) (.inl ⟨rfl, rfl, rfl, rfl⟩) (b := 0) (N := 0) (row := fun _ => []) (u := 0) (by omega) (by show (2 * (0 + k) + 192) * 40 ≤ 281474976710656; omega) (fun j hj z hz => ?_) ?_
          · simp only [evRow] at hz
            simp at hz
            rcases hz with rfl | rfl | rfl | rfl | rfl <;> trivial
          intro a10 w10 b' cap' N' row' u' hc1 hc2 hrow0 hrow hb' hr10
          have hall := hr10.all
          have hr11 : RepX (frame0 w) ⟨[(47, 0, .sl 1 b' 0 0 k cap' 5), (10, 0, .v (.int .i64 r)), (43, 0, .v (.int .i64 r)), (7, 0, .v (.bool true)), (0, 0, .sl 0 b o0 0 k cap 5), (1, 0, .v (.int .i64 i0)), (2, 0, .v (.int .i64 y))], [(b, false, .arr o0 N (fun j => evRow (f j)) 5 u fz), (b', true, .arr 0 k (fun j => evRow (f j)) 5 u' (0, 0))], 0, 0, 104, [], [], []⟩ a10 w10 :=
            hr10.re (by simp [envTo, SX.look, den]) ⟨⟨hall.1.1, by simp, fun e he => by simp at he; subst he; exact hall.1.2.2 (b', true, .arr 0 N' row' 5 u' (0, 0)) (by simp)⟩, ⟨rep_arr_sub hall.2.1.1 (by omega) fun j hj => by have := hrow j hj; simp at this; rw [this], hall.2.1.2.1, by simp⟩, trivial⟩ rfl rfl
          clear hr10 hall
          obtain hr | hr : r = 0 ∨ r = 1 := by omega
          · subst hr
            cases hrd : (f i0).rd with
            | false =>
              have hbend : okAt (upd f i0 ⟨(f i0).at_, (f i0).lba, false, 0, (f i0).by_⟩) i0 = false := bend_write hok hi1 rfl rfl rfl
              refine seg cfg3_ok mixed PanicFree.body 1000 [true] [] hr11 trivial (by kernel_rfl) fun s_ hs_ => ?_
              simp [SX.vc, SX.stop, SX.contS, SX.contB, SX.contW, SX.contR, SX.contD, SX.sxStep, SX.stepPure, SX.stepNew, SX.stepStore, SX.stepKeep, SX.guardIx, SX.evOp, SX.opd, SX.opds, SX.optOpd, SX.look, SX.putS, SX.gobs, SX.AllP, SX.leave, SX.lookC, SX.lookB, SX.lookT, SX.lookN, SX.findK, SX.evBuiltin, SX.ints, SX.foldI, SX.evBin, SX.evInt, SX.evStr, SX.evEq, SX.arith, SX.evLoad, SX.shapeUp, SX.evFieldAddr, SX.evField, SX.evIndexAddr, SX.evIndex, SX.evFill, SX.evBuild, SX.szs, SX.cellsV, SX.evNew, SX.evStore, SX.spliceL, SX.SV.cells, SX.evConv, SX.evSlice, SX.bnd, SX.evNil, SX.evUn, SX.evPick, SX.pickOpd, SX.popTo, SX.cnd, SX.env0, SX.TD.isAgg, SX.TD.isIface, SX.tails, SX.NotAgg, SX.evLookup, Go.Value.cells, cfg3, evRow, hrd]
              refine ⟨by (unfold SX.Ob; first | trivial | omega | ((try simp only [SX.inK]); (try simp [SX.den, *]); (try omega))), ?_⟩
              intro a12 w12 hr12 _
              refine post_call 9 [.sl 1 b' 0 0 k cap' 5] hr12 (wanted_none rfl) rfl callable9 (judge_ok w12 1 b' 0 k k cap' (upd f i0 ⟨(f i0).at_, (f i0).lba, false, 0, (f i0).by_⟩) u' (0, 0) (rep_arr_sub hr12.all.2.1.1 (Nat.le_refl _) fun j hj => by
                by_cases hj0 : j = i0
                · subst hj0; simp [setRow, upd, evRow, spliceL, hrd]
                · simp [setRow, upd, evRow, spliceL, hj0]) (Nat.le_refl _) (by omega)) ?_
              rintro e w13 ⟨q, ok, rfl, hbel4, ht, hf'⟩
              refine ⟨_, rfl, ?_⟩
              have h13 := hr12.ret hbel4 93 (.tu [.v (.int .i64 q), .v (.bool ok)]) rfl _ (hr12.all.below hbel4) (by simp) rfl
              obtain ⟨rfl, rfl⟩ : q = i0 ∧ ok = false := bent_at hbend hok hi1 ht hf'
              refine seg cfg3_ok mixed PanicFree.body 1000 [false] [] h13 trivial (by kernel_rfl) fun s_ hs_ => ?_
              simp [SX.vc, SX.stop, SX.contS, SX.contB, SX.contW, SX.contR, SX.contD, SX.sxStep, SX.stepPure, SX.stepNew, SX.stepStore, SX.stepKeep, SX.guardIx, SX.evOp, SX.opd, SX.opds, SX.optOpd, SX.look, SX.putS, SX.gobs, SX.AllP, SX.leave, SX.lookC, SX.lookB, SX.lookT, SX.lookN, SX.findK, SX.evBuiltin, SX.ints, SX.foldI, SX.evBin, SX.evInt, SX.evStr, SX.evEq, SX.arith, SX.evLoad, SX.shapeUp, SX.evFieldAddr, SX.evField, SX.evIndexAddr, SX.evIndex, SX.evFill, SX.evBuild, SX.szs, SX.cellsV, SX.evNew, SX.evStore, SX.spliceL, SX.SV.cells, SX.evConv, SX.evSlice, SX.bnd, SX.evNil, SX.evUn, SX.evPick, SX.pickOpd, SX.popTo, SX.cnd, SX.env0, SX.TD.isAgg, SX.TD.isIface, SX.tails, SX.NotAgg, SX.evLookup, Go.Value.cells, cfg3]
              refine ⟨by (unfold SX.Ob; first | trivial | omega | ((try simp only [SX.inK]); (try simp [SX.den, *]); (try omega))), ?_⟩
              intro a14 w14 hr14 _
              exact post_rnd (2 - (0 + 1)) (by omega) ⟨0 + 1, rfl, by omega, hr14.re (by simp [envTo, SX.look]) ⟨⟨hr14.all.1.1, by simp, by simp⟩, trivial⟩ rfl rfl⟩
            | true =>
              have hbend : okAt (upd f i0 ⟨(f i0).at_, (f i0).lba, true, IntKind.i64.wrap ((f i0).ver + 1), (f i0).by_⟩) i0 = false := bend_read hok hi1 hrd rfl rfl rfl (.inl (wrap_ne (hf i0 hi1).1))
              refine seg cfg3w_ok mixed PanicFree.body 1000 [false, true] [] hr11 trivial (by kernel_rfl) fun s_ hs_ => ?_
              simp [SX.vc, SX.stop, SX.contS, SX.contB, SX.contW, SX.contR, SX.contD, SX.sxStep, SX.stepPure, SX.stepNew, SX.stepStore, SX.stepKeep, SX.guardIx, SX.evOp, SX.opd, SX.opds, SX.optOpd, SX.look, SX.putS, SX.gobs, SX.AllP, SX.leave, SX.lookC, SX.lookB, SX.lookT, SX.lookN, SX.findK, SX.evBuiltin, SX.ints, SX.foldI, SX.evBin, SX.evInt, SX.evStr, SX.evEq, SX.arith, SX.evLoad, SX.shapeUp, SX.evFieldAddr, SX.evField, SX.evIndexAddr, SX.evIndex, SX.evFill, SX.evBuild, SX.szs, SX.cellsV, SX.evNew, SX.evStore, SX.spliceL, SX.SV.cells, SX.evConv, SX.evSlice, SX.bnd, SX.evNil, SX.evUn, SX.evPick, SX.pickOpd, SX.popTo, SX.cnd, SX.env0, SX.TD.isAgg, SX.TD.isIface, SX.tails, SX.NotAgg, SX.evLookup, Go.Value.cells, cfg3w, evRow, hrd, cfg3]
              refine ⟨by (unfold SX.Ob; first | trivial | omega | ((try simp only [SX.inK]); (try simp [SX.den, *]); (try omega))), ?_⟩
              intro a12 w12 hr12 _
              refine post_call 9 [.sl 1 b' 0 0 k cap' 5] hr12 (wanted_none rfl) rfl callable9 (judge_ok w12 1 b' 0 k k cap' (upd f i0 ⟨(f i0).at_, (f i0).lba, true, IntKind.i64.wrap ((f i0).ver + 1), (f i0).by_⟩) u' (0, 0) (rep_arr_sub hr12.all.2.1.1 (Nat.le_refl _) fun j hj => by
                by_cases hj0 : j = i0
                · subst hj0; simp [setRow, upd, evRow, spliceL, hrd]
                · simp [setRow, upd, evRow, spliceL, hj0]) (Nat.le_refl _) (by omega)) ?_
              rintro e w13 ⟨q, ok, rfl, hbel4, ht, hf'⟩
              refine ⟨_, rfl, ?_⟩
              have h13 := hr12.ret hbel4 93 (.tu [.v (.int .i64 q), .v (.bool ok)]) rfl _ (hr12.all.below hbel4) (by simp) rfl
              obtain ⟨rfl, rfl⟩ : q = i0 ∧ ok = false := bent_at hbend hok hi1 ht hf'
              refine seg cfg3_ok mixed PanicFree.body 1000 [false] [] h13 trivial (by kernel_rfl) fun s_ hs_ => ?_
              simp [SX.vc, SX.stop, SX.contS, SX.contB, SX.contW, SX.contR, SX.contD, SX.sxStep, SX.stepPure, SX.stepNew, SX.stepStore, SX.stepKeep, SX.guardIx, SX.evOp, SX.opd, SX.opds, SX.optOpd, SX.look, SX.putS, SX.gobs, SX.AllP, SX.leave, SX.lookC, SX.lookB, SX.lookT, SX.lookN, SX.findK, SX.evBuiltin, SX.ints, SX.foldI, SX.evBin, SX.evInt, SX.evStr, SX.evEq, SX.arith, SX.evLoad, SX.shapeUp, SX.evFieldAddr, SX.evField, SX.evIndexAddr, SX.evIndex, SX.evFill, SX.evBuild, SX.szs, SX.cellsV, SX.evNew, SX.evStore, SX.spliceL, SX.SV.cells, SX.evConv, SX.evSlice, SX.bnd, SX.evNil, SX.evUn, SX.evPick, SX.pickOpd, SX.popTo, SX.cnd, SX.env0, SX.TD.isAgg, SX.TD.isIface, SX.tails, SX.NotAgg, SX.evLookup, Go.Value.cells, cfg3]
              refine ⟨by (unfold SX.Ob; first | trivial | omega | ((try simp only [SX.inK]); (try simp [SX.den, *]); (try omega))), ?_⟩
              intro a14 w14 hr14 _
              exact post_rnd (2 - (0 + 1)) (by omega) ⟨0 + 1, rfl, by omega, hr14.re (by simp [envTo, SX.look]) ⟨⟨hr14.all.1.1, by simp, by simp⟩, trivial⟩ rfl rfl⟩
          · subst hr
            cases hrd : (f i0).rd with
            | false =>
              refine seg cfg3_ok mixed PanicFree.body 1000 [false, false, false] [] hr11 trivial (by kernel_rfl) fun s_ hs_ => ?_
              simp [SX.vc, SX.stop, SX.contS, SX.contB, SX.contW, SX.contR, SX.contD, SX.sxStep, SX.stepPure, SX.stepNew, SX.stepStore, SX.stepKeep, SX.guardIx, SX.evOp, SX.opd, SX.opds, SX.optOpd, SX.look, SX.putS, SX.gobs, SX.AllP, SX.leave, SX.lookC, SX.lookB, SX.lookT, SX.lookN, SX.findK, SX.evBuiltin, SX.ints, SX.foldI, SX.evBin, SX.evInt, SX.evStr, SX.evEq, SX.arith, SX.evLoad, SX.shapeUp, SX.evFieldAddr, SX.evField, SX.evIndexAddr, SX.evIndex, SX.evFill, SX.evBuild, SX.szs, SX.cellsV, SX.evNew, SX.evStore, SX.spliceL, SX.SV.cells, SX.evConv, SX.evSlice, SX.bnd, SX.evNil, SX.evUn, SX.evPick, SX.pickOpd, SX.popTo, SX.cnd, SX.env0, SX.TD.isAgg, SX.TD.isIface, SX.tails, SX.NotAgg, SX.evLookup, Go.Value.cells, cfg3, evRow, hrd]
              refine ⟨by (unfold SX.Ob; first | trivial | omega | ((try simp only [SX.inK]); (try simp [SX.den, *]); (try omega))), ?_⟩
              intro a12 w12 hr12 _
              exact post_rnd (2 - (1 + 1)) (by omega) ⟨1 + 1, rfl, by omega, hr12.re (by simp [envTo, SX.look]) ⟨⟨hr12.all.1.1, by simp, by simp⟩, trivial⟩ rfl rfl⟩
            | true =>
              obtain ⟨hy1, hy2⟩ := tmod_bounds y 255 (by omega)
              obtain ⟨y0, hy3, hy4⟩ := wrapped_idx y 255 (by omega)
              have hbend : okAt (upd f i0 ⟨(f i0).at_, (f i0).lba, true, (f i0).ver, IntKind.u8.wrap ((f i0).by_ + IntKind.u8.wrap (1 + y0))⟩) i0 = false := bend_read hok hi1 hrd rfl rfl rfl (.inr (wrap8_ne (hf i0 hi1).2.1 (hf i0 hi1).2.2 hy4))
              simp only [Int.cast_ofNat_Int] at hy1 hy2 hy3
              refine seg cfg3_ok mixed PanicFree.body 1000 [false, false, true] [] hr11 trivial (by kernel_rfl) fun s_ hs_ => ?_
              simp [SX.vc, SX.stop, SX.contS, SX.contB, SX.contW, SX.contR, SX.contD, SX.sxStep, SX.stepPure, SX.stepNew, SX.stepStore, SX.stepKeep, SX.guardIx, SX.evOp, SX.opd, SX.opds, SX.optOpd, SX.look, SX.putS, SX.gobs, SX.AllP, SX.leave, SX.lookC, SX.lookB, SX.lookT, SX.lookN, SX.findK, SX.evBuiltin, SX.ints, SX.foldI, SX.evBin, SX.evInt, SX.evStr, SX.evEq, SX.arith, SX.evLoad, SX.shapeUp, SX.evFieldAddr, SX.evField, SX.evIndexAddr, SX.evIndex, SX.evFill, SX.evBuild, SX.szs, SX.cellsV, SX.evNew, SX.evStore, SX.spliceL, SX.SV.cells, SX.evConv, SX.evSlice, SX.bnd, SX.evNil, SX.evUn, SX.evPick, SX.pickOpd, SX.popTo, SX.cnd, SX.env0, SX.TD.isAgg, SX.TD.isIface, SX.tails, SX.NotAgg, SX.evLookup, Go.Value.cells, cfg3, evRow, hrd, hy3]
              refine ⟨by (unfold SX.Ob; first | trivial | omega | ((try simp only [SX.inK]); (try simp [SX.den, *]); (try omega))), ?_⟩
              intro a12 w12 hr12 _
              refine post_call 9 [.sl 1 b' 0 0 k cap' 5] hr12 (wanted_none rfl) rfl callable9 (judge_ok w12 1 b' 0 k k cap' (upd f i0 ⟨(f i0).at_, (f i0).lba, true, (f i0).ver, IntKind.u8.wrap ((f i0).by_ + IntKind.u8.wrap (1 + y0))⟩) u' (0, 0) (rep_arr_sub hr12.all.2.1.1 (Nat.le_refl _) fun j hj => by
                by_cases hj0 : j = i0
                · subst hj0; simp [setRow, upd, evRow, spliceL, hrd]
                · simp [setRow, upd, evRow, spliceL, hj0]) (Nat.le_refl _) (by omega)) ?_
              rintro e w13 ⟨q, ok, rfl, hbel4, ht, hf'⟩
              refine ⟨_, rfl, ?_⟩
              have h13 := hr12.ret hbel4 93 (.tu [.v (.int .i64 q), .v (.bool ok)]) rfl _ (hr12.all.below hbel4) (by simp) rfl
              obtain ⟨rfl, rfl⟩ : q = i0 ∧ ok = false := bent_at hbend hok hi1 ht hf'
              refine seg cfg3_ok mixed PanicFree.body 1000 [false] [] h13 trivial (by kernel_rfl) fun s_ hs_ => ?_
              simp [SX.vc, SX.stop, SX.contS, SX.contB, SX.contW, SX.contR, SX.contD, SX.sxStep, SX.stepPure, SX.stepNew, SX.stepStore, SX.stepKeep, SX.guardIx, SX.evOp, SX.opd, SX.opds, SX.optOpd, SX.look, SX.putS, SX.gobs, SX.AllP, SX.leave, SX.lookC, SX.lookB, SX.lookT, SX.lookN, SX.findK, SX.evBuiltin, SX.ints, SX.foldI, SX.evBin, SX.evInt, SX.evStr, SX.evEq, SX.arith, SX.evLoad, SX.shapeUp, SX.evFieldAddr, SX.evField, SX.evIndexAddr, SX.evIndex, SX.evFill, SX.evBuild, SX.szs, SX.cellsV, SX.evNew, SX.evStore, SX.spliceL, SX.SV.cells, SX.evConv, SX.evSlice, SX.bnd, SX.evNil, SX.evUn, SX.evPick, SX.pickOpd, SX.popTo, SX.cnd, SX.env0, SX.TD.isAgg, SX.TD.isIface, SX.tails, SX.NotAgg, SX.evLookup, Go.Value.cells, cfg3]
              refine ⟨by (unfold SX.Ob; first | trivial | omega | ((try simp only [SX.inK]); (try simp [SX.den, *]); (try omega))), ?_⟩
              intro a14 w14 hr14 _
              exact post_rnd (2 - (1 + 1)) (by omega) ⟨1 + 1, rfl, by omega, hr14.re (by simp [envTo, SX.look]) ⟨⟨hr14.all.1.1, by simp, by simp⟩, trivial⟩ rfl rfl⟩
        · obtain rfl : r = 2 := by omega
          refine seg cfg3_ok mixed PanicFree.body 1000 [false] [] hr8 trivial (by kernel_rfl) fun s_ hs_ => ?_
          simp [SX.vc, SX.stop, SX.contS, SX.contB, SX.contW, SX.contR, SX.contD, SX.sxStep, SX.stepPure, SX.stepNew, SX.stepStore, SX.stepKeep, SX.guardIx, SX.evOp, SX.opd, SX.opds, SX.optOpd, SX.look, SX.putS, SX.gobs, SX.AllP, SX.leave, SX.lookC, SX.lookB, SX.lookT, SX.lookN, SX.findK, SX.evBuiltin, SX.ints, SX.foldI, SX.evBin, SX.evInt, SX.evStr, SX.evEq, SX.arith, SX.evLoad, SX.shapeUp, SX.evFieldAddr, SX.evField, SX.evIndexAddr, SX.evIndex, SX.evFill, SX.evBuild, SX.szs, SX.cellsV, SX.evNew, SX.evStore, SX.spliceL, SX.SV.cells, SX.evConv, SX.evSlice, SX.bnd, SX.evNil, SX.evUn, SX.evPick, SX.pickOpd, SX.popTo, SX.cnd, SX.env0, SX.TD.isAgg, SX.TD.isIface, SX.tails, SX.NotAgg, SX.evLookup, Go.Value.cells, cfg3]
          refine ⟨by (unfold SX.Ob; first | trivial | omega | ((try simp only [SX.inK]); (try simp [SX.den, *]); (try omega))), ?_⟩
          intro a9 w9 hr9 _
          exact post_retn (end1 hr9 rfl rfl ⟨rfl, hr9.keeps.toBelow⟩).1
  · refine seg cfg3_ok mixed PanicFree.body 1000 [true] [] h4 trivial (by kernel_rfl) fun s_ hs_ => ?_
    simp [SX.vc, SX.stop, SX.contS, SX.contB, SX.contW, SX.contR, SX.contD, SX.sxStep, SX.stepPure, SX.stepNew, SX.stepStore, SX.stepKeep, SX.guardIx, SX.evOp, SX.opd, SX.opds, SX.optOpd, SX.look, SX.putS, SX.gobs, SX.AllP, SX.leave, SX.lookC, SX.lookB, SX.lookT, SX.lookN, SX.findK, SX.evBuiltin, SX.ints, SX.foldI, SX.evBin, SX.evInt, SX.evStr, SX.evEq, SX.arith, SX.evLoad, SX.shapeUp, SX.evFieldAddr, SX.evField, SX.evIndexAddr, SX.evIndex, SX.evFill, SX.evBuild, SX.szs, SX.cellsV, SX.evNew, SX.evStore, SX.spliceL, SX.SV.cells, SX.evConv, SX.evSlice, SX.bnd, SX.evNil, SX.evUn, SX.evPick, SX.pickOpd, SX.popTo, SX.cnd, SX.env0, SX.TD.isAgg, SX.TD.isIface, SX.tails, SX.NotAgg, SX.evLookup, Go.Value.cells, cfg3, hn4]
    refine ⟨by (unfold SX.Ob; first | trivial | omega | ((try simp only [SX.inK]); (try simp [SX.den, *]); (try omega))), ?_⟩
    intro a5 w5 hr5 _
    exact post_retn (end1 hr5 rfl rfl ⟨rfl, hr5.keeps.toBelow⟩).1
end Go.Proofs
