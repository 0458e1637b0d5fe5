/- HistoryParts, walked. -/
import Derived.Test.YtajppkjbmiemhaaOZJ
import Derived.Test.YtajppkjbmiemhaaOZK
namespace Go.Proofs
set_option linter.unusedVariables false
set_option linter.unusedSimpArgs false
set_option linter.unusedSectionVars false
open Go Go.SX Go.RowKit Go.Hist

set_option maxRecDepth 100000 in
set_option maxHeartbeats 32000000 in
/-- Judge, of nothing. -/
theorem judge0_ok (w : World) (ad : Option Addr) (cp : Nat) : Calls Try.prog 9 (denL [.v (.slice ad 0 cp)]).toArray w (JL [] w) := by
  refine enter (F := frame0 w) Try.func9 rfl [.v (.slice ad 0 cp)] [] (by simp [Try.f9]) trivial (keeps0 w) fun a hr => ?_
  refine seg cfg9_ok mixed PanicFree.body 1000 [] [] hr (by first | trivial | exact HpRep.nil | assumption) (by kernel_rfl) fun s_ hs_ => ?_
  simp (maxSteps := 10000000) [SX.vc, SX.stop, SX.contS, SX.contB, SX.contW, SX.contR, SX.contD, SX.sxStep, SX.stepPure, SX.stepNew, SX.stepStore, SX.stepKeep, SX.guardIx, SX.evOp, SX.opd, SX.opds, SX.optOpd, SX.look, SX.putS, SX.gobs, SX.AllP, SX.leave, SX.lookC, SX.lookB, SX.lookT, SX.lookN, SX.findK, SX.evBuiltin, SX.ints, SX.foldI, SX.evBin, SX.evInt, SX.evStr, SX.evEq, SX.arith, SX.evLoad, SX.shapeUp, SX.evFieldAddr, SX.evField, SX.evIndexAddr, SX.evIndex, SX.evFill, SX.evBuild, SX.szs, SX.cellsV, SX.evNew, SX.evStore, SX.spliceL, SX.SV.cells, SX.evConv, SX.evSlice, SX.bnd, SX.evNil, SX.evUn, SX.evPick, SX.pickOpd, SX.popTo, SX.cnd, SX.env0, SX.TD.isAgg, SX.TD.isIface, SX.tails, SX.NotAgg, SX.evLookup, SX.evConvH, SX.evPtrEq, SX.isCells, SX.thaw, SX.frz, SX.fixB, SX.rootIx, SX.Froz, SX.frzStep, SX.fork, Go.Value.cells, Go.undef, cfg9, Try.f9]
  refine ⟨by (unfold SX.Ob; first | trivial | omega | ((try simp only [SX.inK]); (try simp [SX.den, SX.IsU8, SX.AllP, *]); (try omega))), ?_⟩
  intro a1 w1 hr1 _
  refine post_loop (fun m a w' => m = 0 ∧ ∃ bm o, RepX (frame0 w) ⟨[(12, 0, .v (.int .i64 0)), (11, 0, .v (.int .i64 0)), (0, 0, .v (.slice ad 0 cp))], [(bm, true, o)], 0, 0, 87, [], [], []⟩ a w') 0 ⟨rfl, _, _, hr1.re (by simp [envTo, SX.look]) hr1.all rfl rfl⟩ ?_
  rintro m a2 w2 ⟨rfl, bm, o, hr2⟩
  refine seg cfg9_ok mixed PanicFree.body 1000 [false] [] hr2 (by first | trivial | exact HpRep.nil | assumption) (by kernel_rfl) fun s_ hs_ => ?_
  simp (maxSteps := 10000000) [SX.vc, SX.stop, SX.contS, SX.contB, SX.contW, SX.contR, SX.contD, SX.sxStep, SX.stepPure, SX.stepNew, SX.stepStore, SX.stepKeep, SX.guardIx, SX.evOp, SX.opd, SX.opds, SX.optOpd, SX.look, SX.putS, SX.gobs, SX.AllP, SX.leave, SX.lookC, SX.lookB, SX.lookT, SX.lookN, SX.findK, SX.evBuiltin, SX.ints, SX.foldI, SX.evBin, SX.evInt, SX.evStr, SX.evEq, SX.arith, SX.evLoad, SX.shapeUp, SX.evFieldAddr, SX.evField, SX.evIndexAddr, SX.evIndex, SX.evFill, SX.evBuild, SX.szs, SX.cellsV, SX.evNew, SX.evStore, SX.spliceL, SX.SV.cells, SX.evConv, SX.evSlice, SX.bnd, SX.evNil, SX.evUn, SX.evPick, SX.pickOpd, SX.popTo, SX.cnd, SX.env0, SX.TD.isAgg, SX.TD.isIface, SX.tails, SX.NotAgg, SX.evLookup, SX.evConvH, SX.evPtrEq, SX.isCells, SX.thaw, SX.frz, SX.fixB, SX.rootIx, SX.Froz, SX.frzStep, SX.fork, Go.Value.cells, Go.undef, cfg9]
  refine ⟨by (unfold SX.Ob; first | trivial | omega | ((try simp only [SX.inK]); (try simp [SX.den, SX.IsU8, SX.AllP, *]); (try omega))), ?_⟩
  intro a3 w3 hr3 _
  exact post_retn (end2 hr3 rfl rfl rfl ⟨0, rfl, Nat.le_refl _, fun n hn => by simp at hn; subst hn; simp [jl], hr3.keeps.toBelow⟩).1
theorem judgeL_ok {P : Nat → Prop} (w : World) (v : Value) (L : List HEv) (hL : RdH P w v L) (hn : L.length ≤ 1000000000000) : Calls Try.prog 9 (denL [.v v]).toArray w (JL L w) := by
  rcases Nat.eq_zero_or_pos L.length with h0 | h0
  · obtain rfl := List.eq_nil_of_length_eq_zero h0
    obtain ⟨ad, cp, rfl⟩ := hL.slice
    exact judge0_ok w ad cp
  · obtain ⟨b, o0, cap, u, fz, hP, rfl, hrep⟩ := hL.opn h0
    refine Calls.mono (judge_ok w 0 b o0 L.length L.length cap (nth zeroEv L) u fz hrep (Nat.le_refl _) hn) fun e w' h => jl_post (fun j hj => ?_) h
    rw [nth_lt hj, List.getElem?_eq_getElem hj]

theorem flatH (L : List HEv) : ∀ x ∈ L, ∀ c ∈ evRow x, NotAgg (den c) := by
  intro x _ c hc
  simp only [evRow, List.mem_cons, List.not_mem_nil, or_false] at hc
  rcases hc with rfl | rfl | rfl | rfl | rfl <;> trivial
theorem filter_takeH {p : HEv → Bool} {L : List HEv} {k : Nat} {x : HEv} (h : k < L.length) (hx : nth zeroEv L k = x) : (L.take (k + 1)).filter p = (L.take k).filter p ++ (if p x then [x] else []) := by
  rw [take_nth (d := zeroEv) h, hx, List.filter_append]
  cases hp : p x <;> simp [hp]
theorem OwS.nil {α : Type} {enc : α → List SV} {sz : Nat} {d : α} {P : Nat → Prop} {w : World} : OwS enc sz d P w (.slice none 0 0) [] := .inl ⟨rfl, none, rfl⟩
abbrev noM : M := fun _ => none
def PaJ (F : Fr) (q k : Nat) (okk : Bool) (v : Value) (a : Act) (w' : World) : Prop :=
  RepX F ⟨[(9, 0, .v (.bool (decide ((q : Int) ≤ (k : Int))))), (7, 0, .v (.bool okk)), (6, 0, .v (.int .i64 k)), (5, 0, .v (.bool true)), (1, 0, .v (.int .i64 q)), (0, 0, .v v)], [], 0, 0, 113, [], [], []⟩ a w'
def PaL0 (F : Fr) (L : List HEv) (K : List Int) (ln nk : Nat) (okk : Bool) (v vk : Value) (m : Nat) (a : Act) (w' : World) : Prop :=
  ∃ i : Nat, m = nk - i ∧ i ≤ nk ∧ RepX F ⟨[(60, 0, .v (.int .i64 i)), (59, 0, .v (.int .i64 nk)), (58, 0, .v vk), (10, 0, .v (.bool ((K.take i).all fun x => jl noM (ofB x L)))), (7, 0, .v (.bool okk)), (5, 0, .v (.bool true)), (0, 0, .v v)], [], 0, 0, 113, [], [], []⟩ a w'
def PaL2 (F : Fr) (L : List HEv) (K : List Int) (ln nk i : Nat) (x : Int) (okk : Bool) (v vk : Value) (m : Nat) (a : Act) (w' : World) : Prop :=
  ∃ (j : Nat) (vo vp : Value) (PA PB : Nat → Prop), m = ln - j ∧ j ≤ ln ∧ OwH PA w' vo (ofB x (L.take j)) ∧ OwH PB w' vp (notB x (L.take j)) ∧ (∀ y, PA y → ¬ PB y) ∧ (∀ y, PA y → F.B ≤ y ∧ y < w'.heap.size) ∧ (∀ y, PB y → F.B ≤ y ∧ y < w'.heap.size) ∧
    RepX F ⟨[(66, 0, .v (.int .i64 j)), (65, 0, .v (.int .i64 ln)), (64, 0, .v v), (13, 0, .v vo), (14, 0, .v vp), (12, 0, .v (.int .i64 x)), (60, 0, .v (.int .i64 i)), (59, 0, .v (.int .i64 nk)), (58, 0, .v vk), (10, 0, .v (.bool ((K.take i).all fun x => jl noM (ofB x L)))), (7, 0, .v (.bool okk)), (5, 0, .v (.bool true)), (0, 0, .v v)], [], 0, 0, 113, [], [], []⟩ a w'

set_option maxRecDepth 100000 in
set_option maxHeartbeats 64000000 in
/-- HistoryParts. -/
theorem parts_ok (w : World) (v : Value) (L : List HEv) (n : Int) (hL : RdH (fun x => x < w.heap.size) w v L) (hn : L.length ≤ 1000000000000000) (hI : ∀ x ∈ L, InEv x) : Calls Try.prog 5 (denL [.v v, .v (.int .i64 n)]).toArray w (fun ev w' => ev = .returned (.bool true) ∧ Below w.heap.size w w') := by
  obtain ⟨ad, cp, rfl⟩ := hL.slice
  obtain ⟨ln, hln⟩ : ∃ ln, L.length = ln := ⟨_, rfl⟩
  rw [hln] at hL hn ⊢
  obtain ⟨r1, hr1e⟩ : ∃ r1 : Int, n.tmod ((ln : Int) + 1) = r1 := ⟨_, rfl⟩
  have hr1a : -(ln : Int) ≤ r1 ∧ r1 ≤ ln := by
    have h1 := Int.tmod_lt_of_pos n (show (0 : Int) < (ln : Int) + 1 by omega)
    have h2 := Int.lt_tmod_of_pos n (show (0 : Int) < (ln : Int) + 1 by omega)
    rw [hr1e] at h1 h2
    omega
  obtain ⟨q, hq, hq1⟩ : ∃ q : Nat, (r1 + (ln : Int) + 1).tmod ((ln : Int) + 1) = (q : Int) ∧ q ≤ ln := by
    have h0 := Int.tmod_nonneg ((ln : Int) + 1) (show 0 ≤ r1 + (ln : Int) + 1 by omega)
    have h1 := Int.tmod_lt_of_pos (r1 + (ln : Int) + 1) (show (0 : Int) < (ln : Int) + 1 by omega)
    exact ⟨((r1 + (ln : Int) + 1).tmod ((ln : Int) + 1)).toNat, by omega, by omega⟩
  refine enter (F := frame0 w) Try.func5 rfl [.v (.slice ad ln cp), .v (.int .i64 n)] [] (by simp [Try.f5]) trivial (keeps0 w) fun a hr => ?_
  refine seg cfg5_ok mixed PanicFree.body 1000 [] [] hr (by first | trivial | exact HpRep.nil | assumption) (by kernel_rfl) fun s_ hs_ => ?_
  simp (maxSteps := 10000000) [SX.vc, SX.stop, SX.contS, SX.contB, SX.contW, SX.contR, SX.contD, SX.sxStep, SX.stepPure, SX.stepNew, SX.stepStore, SX.stepKeep, SX.guardIx, SX.evOp, SX.opd, SX.opds, SX.optOpd, SX.look, SX.putS, SX.gobs, SX.AllP, SX.leave, SX.lookC, SX.lookB, SX.lookT, SX.lookN, SX.findK, SX.evBuiltin, SX.ints, SX.foldI, SX.evBin, SX.evInt, SX.evStr, SX.evEq, SX.arith, SX.evLoad, SX.shapeUp, SX.evFieldAddr, SX.evField, SX.evIndexAddr, SX.evIndex, SX.evFill, SX.evBuild, SX.szs, SX.cellsV, SX.evNew, SX.evStore, SX.spliceL, SX.SV.cells, SX.evConv, SX.evSlice, SX.bnd, SX.evNil, SX.evUn, SX.evPick, SX.pickOpd, SX.popTo, SX.cnd, SX.env0, SX.TD.isAgg, SX.TD.isIface, SX.tails, SX.NotAgg, SX.evLookup, SX.evConvH, SX.evPtrEq, SX.isCells, SX.thaw, SX.frz, SX.fixB, SX.rootIx, SX.Froz, SX.frzStep, SX.fork, Go.Value.cells, Go.undef, cfg5, Try.f5]
  refine ⟨by (unfold SX.Ob; first | trivial | omega | ((try simp only [SX.inK]); (try simp [SX.den, SX.IsU8, SX.AllP, *]); (try omega))), ?_⟩
  intro a1 w1 hr1 _
  refine post_call 7 [] hr1 (by first | exact wanted_none rfl | exact wanted_zero (hr1.env.same rfl rfl rfl rfl) rfl (by simp) | exact wanted_zero (hr1.env.same rfl rfl rfl rfl) rfl (by simp [*])) rfl (callable 7 Try.func7) (live_ok w1) ?_
  rintro e2 w2 ⟨rfl, hb2⟩
  refine ⟨_, rfl, ?_⟩
  have h2 := hr1.ret hb2 21 (.v (.bool true)) rfl _ (hr1.all.below hb2) (by simp) rfl
  refine seg cfg5_ok mixed PanicFree.body 1000 [] [] h2 (by first | trivial | exact HpRep.nil | assumption) (by kernel_rfl) fun sS hsS => ?_
  simp (maxSteps := 10000000) [SX.vc, SX.stop, SX.contS, SX.contB, SX.contW, SX.contR, SX.contD, SX.sxStep, SX.stepPure, SX.stepNew, SX.stepStore, SX.stepKeep, SX.guardIx, SX.evOp, SX.opd, SX.opds, SX.optOpd, SX.look, SX.putS, SX.gobs, SX.AllP, SX.leave, SX.lookC, SX.lookB, SX.lookT, SX.lookN, SX.findK, SX.evBuiltin, SX.ints, SX.foldI, SX.evBin, SX.evInt, SX.evStr, SX.evEq, SX.arith, SX.evLoad, SX.shapeUp, SX.evFieldAddr, SX.evField, SX.evIndexAddr, SX.evIndex, SX.evFill, SX.evBuild, SX.szs, SX.cellsV, SX.evNew, SX.evStore, SX.spliceL, SX.SV.cells, SX.evConv, SX.evSlice, SX.bnd, SX.evNil, SX.evUn, SX.evPick, SX.pickOpd, SX.popTo, SX.cnd, SX.env0, SX.TD.isAgg, SX.TD.isIface, SX.tails, SX.NotAgg, SX.evLookup, SX.evConvH, SX.evPtrEq, SX.isCells, SX.thaw, SX.frz, SX.fixB, SX.rootIx, SX.Froz, SX.frzStep, SX.fork, Go.Value.cells, Go.undef, cfg5]
  refine ⟨by (unfold SX.Ob; first | trivial | omega | ((try simp only [SX.inK]); (try simp [SX.den, SX.IsU8, SX.AllP, *]); (try omega))), ?_⟩
  intro a3 w3 hr3 _
  refine post_call 8 [.sl 0 sS 0 0 1 1 1] hr3 (by first | exact wanted_none rfl | exact wanted_zero (hr3.env.same rfl rfl rfl rfl) rfl (by simp) | exact wanted_zero (hr3.env.same rfl rfl rfl rfl) rfl (by simp [*])) rfl (callable 8 Try.func8) (few1_ok w3 0 sS 1 _ ad ln cp _ hr3.all.1.1 (by simp [denL, den]) (by omega)) ?_
  rintro e4 w4 ⟨rfl, hb4⟩
  refine ⟨_, rfl, ?_⟩
  have h4 := hr3.ret hb4 24 (.v (.bool (decide (ln ≤ 399)))) rfl _ (hr3.all.below hb4) (by simp) rfl
  by_cases hF : ln ≤ 399
  rotate_left
  · refine seg cfg5_ok mixed PanicFree.body 1000 [true] [] h4 (by first | trivial | exact HpRep.nil | assumption) (by kernel_rfl) fun s_ hs_ => ?_
    simp (maxSteps := 10000000) [SX.vc, SX.stop, SX.contS, SX.contB, SX.contW, SX.contR, SX.contD, SX.sxStep, SX.stepPure, SX.stepNew, SX.stepStore, SX.stepKeep, SX.guardIx, SX.evOp, SX.opd, SX.opds, SX.optOpd, SX.look, SX.putS, SX.gobs, SX.AllP, SX.leave, SX.lookC, SX.lookB, SX.lookT, SX.lookN, SX.findK, SX.evBuiltin, SX.ints, SX.foldI, SX.evBin, SX.evInt, SX.evStr, SX.evEq, SX.arith, SX.evLoad, SX.shapeUp, SX.evFieldAddr, SX.evField, SX.evIndexAddr, SX.evIndex, SX.evFill, SX.evBuild, SX.szs, SX.cellsV, SX.evNew, SX.evStore, SX.spliceL, SX.SV.cells, SX.evConv, SX.evSlice, SX.bnd, SX.evNil, SX.evUn, SX.evPick, SX.pickOpd, SX.popTo, SX.cnd, SX.env0, SX.TD.isAgg, SX.TD.isIface, SX.tails, SX.NotAgg, SX.evLookup, SX.evConvH, SX.evPtrEq, SX.isCells, SX.thaw, SX.frz, SX.fixB, SX.rootIx, SX.Froz, SX.frzStep, SX.fork, Go.Value.cells, Go.undef, cfg5, hF]
    refine ⟨by (unfold SX.Ob; first | trivial | omega | ((try simp only [SX.inK]); (try simp [SX.den, SX.IsU8, SX.AllP, *]); (try omega))), ?_⟩
    intro a5 w5 hr5 _
    exact post_retn (end1 hr5 rfl rfl ⟨rfl, hr5.keeps.toBelow⟩).1
  refine seg cfg5_ok mixed PanicFree.body 1000 [false] [] h4 (by first | trivial | exact HpRep.nil | assumption) (by kernel_rfl) fun s_ hs_ => ?_
  simp (maxSteps := 10000000) [SX.vc, SX.stop, SX.contS, SX.contB, SX.contW, SX.contR, SX.contD, SX.sxStep, SX.stepPure, SX.stepNew, SX.stepStore, SX.stepKeep, SX.guardIx, SX.evOp, SX.opd, SX.opds, SX.optOpd, SX.look, SX.putS, SX.gobs, SX.AllP, SX.leave, SX.lookC, SX.lookB, SX.lookT, SX.lookN, SX.findK, SX.evBuiltin, SX.ints, SX.foldI, SX.evBin, SX.evInt, SX.evStr, SX.evEq, SX.arith, SX.evLoad, SX.shapeUp, SX.evFieldAddr, SX.evField, SX.evIndexAddr, SX.evIndex, SX.evFill, SX.evBuild, SX.szs, SX.cellsV, SX.evNew, SX.evStore, SX.spliceL, SX.SV.cells, SX.evConv, SX.evSlice, SX.bnd, SX.evNil, SX.evUn, SX.evPick, SX.pickOpd, SX.popTo, SX.cnd, SX.env0, SX.TD.isAgg, SX.TD.isIface, SX.tails, SX.NotAgg, SX.evLookup, SX.evConvH, SX.evPtrEq, SX.isCells, SX.thaw, SX.frz, SX.fixB, SX.rootIx, SX.Froz, SX.frzStep, SX.fork, Go.Value.cells, Go.undef, cfg5, hF, hr1e, hq]
  refine ⟨by (unfold SX.Ob; first | trivial | omega | ((try simp only [SX.inK]); (try simp [SX.den, SX.IsU8, SX.AllP, *]); (try omega))), ?_⟩
  intro a5 w5 hr5a _
  have hr5 := hr5a.see [] trivial
  refine post_call 9 [.v (.slice ad ln cp)] hr5 (by first | exact wanted_none rfl | exact wanted_zero (hr5.env.same rfl rfl rfl rfl) rfl (by simp) | exact wanted_zero (hr5.env.same rfl rfl rfl rfl) rfl (by simp [*])) rfl (callable 9 Try.func9) (judgeL_ok w5 _ L (hL.below hr5.keeps.toBelow) (by omega)) ?_
  rintro e6 w6 ⟨k, rfl, hk, hpre, hb6⟩
  refine ⟨_, rfl, ?_⟩
  have h6 := hr5.ret hb6 42 (.tu [.v (.int .i64 k), .v (.bool (jl noM L))]) rfl _ (hr5.all.below hb6) (by simp) rfl
  refine seg cfg5_ok mixed PanicFree.body 9 [] [] h6 (by first | trivial | exact HpRep.nil | assumption) (by kernel_rfl) fun s_ hs_ => ?_
  simp (maxSteps := 10000000) [SX.vc, SX.stop, SX.contS, SX.contB, SX.contW, SX.contR, SX.contD, SX.sxStep, SX.stepPure, SX.stepNew, SX.stepStore, SX.stepKeep, SX.guardIx, SX.evOp, SX.opd, SX.opds, SX.optOpd, SX.look, SX.putS, SX.gobs, SX.AllP, SX.leave, SX.lookC, SX.lookB, SX.lookT, SX.lookN, SX.findK, SX.evBuiltin, SX.ints, SX.foldI, SX.evBin, SX.evInt, SX.evStr, SX.evEq, SX.arith, SX.evLoad, SX.shapeUp, SX.evFieldAddr, SX.evField, SX.evIndexAddr, SX.evIndex, SX.evFill, SX.evBuild, SX.szs, SX.cellsV, SX.evNew, SX.evStore, SX.spliceL, SX.SV.cells, SX.evConv, SX.evSlice, SX.bnd, SX.evNil, SX.evUn, SX.evPick, SX.pickOpd, SX.popTo, SX.cnd, SX.env0, SX.TD.isAgg, SX.TD.isIface, SX.tails, SX.NotAgg, SX.evLookup, SX.evConvH, SX.evPtrEq, SX.isCells, SX.thaw, SX.frz, SX.fixB, SX.rootIx, SX.Froz, SX.frzStep, SX.fork, Go.Value.cells, Go.undef, cfg5]
  refine ⟨by (unfold SX.Ob; first | trivial | omega | ((try simp only [SX.inK]); (try simp [SX.den, SX.IsU8, SX.AllP, *]); (try omega))), ?_⟩
  intro a7 w7 hr7 _
  have hp2 : jl noM (L.take q) = decide ((q : Int) ≤ (k : Int)) := by
    rw [Bool.eq_iff_iff, hpre q (by omega)]
    simp
  refine post_cut (PaJ (frame0 w) q k (jl noM L) (.slice ad ln cp)) 1 rfl ?_ fun a8 w8 hJ => ?_
  · have hL7 := hL.below hr7.keeps.toBelow
    rcases Nat.eq_zero_or_pos ln with h0 | h0
    · subst h0
      obtain rfl : q = 0 := by omega
      obtain rfl := List.eq_nil_of_length_eq_zero hln
      rcases ad with _ | ad
      · refine seg cfg5_ok mixed PanicFree.body 1000 [] [] hr7 (by first | trivial | exact HpRep.nil | assumption) (by kernel_rfl) fun s_ hs_ => ?_
        simp (maxSteps := 10000000) [SX.vc, SX.stop, SX.contS, SX.contB, SX.contW, SX.contR, SX.contD, SX.sxStep, SX.stepPure, SX.stepNew, SX.stepStore, SX.stepKeep, SX.guardIx, SX.evOp, SX.opd, SX.opds, SX.optOpd, SX.look, SX.putS, SX.gobs, SX.AllP, SX.leave, SX.lookC, SX.lookB, SX.lookT, SX.lookN, SX.findK, SX.evBuiltin, SX.ints, SX.foldI, SX.evBin, SX.evInt, SX.evStr, SX.evEq, SX.arith, SX.evLoad, SX.shapeUp, SX.evFieldAddr, SX.evField, SX.evIndexAddr, SX.evIndex, SX.evFill, SX.evBuild, SX.szs, SX.cellsV, SX.evNew, SX.evStore, SX.spliceL, SX.SV.cells, SX.evConv, SX.evSlice, SX.bnd, SX.evNil, SX.evUn, SX.evPick, SX.pickOpd, SX.popTo, SX.cnd, SX.env0, SX.TD.isAgg, SX.TD.isIface, SX.tails, SX.NotAgg, SX.evLookup, SX.evConvH, SX.evPtrEq, SX.isCells, SX.thaw, SX.frz, SX.fixB, SX.rootIx, SX.Froz, SX.frzStep, SX.fork, Go.Value.cells, Go.undef, cfg5]
        refine ⟨by (unfold SX.Ob; first | trivial | omega | ((try simp only [SX.inK]); (try simp [SX.den, SX.IsU8, SX.AllP, *]); (try omega))), ?_⟩
        intro a9 w9 hr9 _
        refine post_call 9 [.v (.slice none 0 cp)] hr9 (by first | exact wanted_none rfl | exact wanted_zero (hr9.env.same rfl rfl rfl rfl) rfl (by simp) | exact wanted_zero (hr9.env.same rfl rfl rfl rfl) rfl (by simp [*])) rfl (callable 9 Try.func9) (judge0_ok w9 _ _) ?_
        rintro e10 w10 ⟨k2, rfl, hk2, hpre2, hb10⟩
        refine ⟨_, rfl, ?_⟩
        have h10 := hr9.ret hb10 49 (.tu [.v (.int .i64 k2), .v (.bool (jl noM ([] : List HEv)))]) rfl _ (hr9.all.below hb10) (by simp) rfl
        have hp3 : jl noM ([] : List HEv) = decide (((0 : Nat) : Int) ≤ (k : Int)) := hp2
        rw [hp3] at h10
        refine seg cfg5_ok mixed PanicFree.body 1000 [] [] h10 (by first | trivial | exact HpRep.nil | assumption) (by kernel_rfl) fun s_ hs_ => ?_
        simp (maxSteps := 10000000) [SX.vc, SX.stop, SX.contS, SX.contB, SX.contW, SX.contR, SX.contD, SX.sxStep, SX.stepPure, SX.stepNew, SX.stepStore, SX.stepKeep, SX.guardIx, SX.evOp, SX.opd, SX.opds, SX.optOpd, SX.look, SX.putS, SX.gobs, SX.AllP, SX.leave, SX.lookC, SX.lookB, SX.lookT, SX.lookN, SX.findK, SX.evBuiltin, SX.ints, SX.foldI, SX.evBin, SX.evInt, SX.evStr, SX.evEq, SX.arith, SX.evLoad, SX.shapeUp, SX.evFieldAddr, SX.evField, SX.evIndexAddr, SX.evIndex, SX.evFill, SX.evBuild, SX.szs, SX.cellsV, SX.evNew, SX.evStore, SX.spliceL, SX.SV.cells, SX.evConv, SX.evSlice, SX.bnd, SX.evNil, SX.evUn, SX.evPick, SX.pickOpd, SX.popTo, SX.cnd, SX.env0, SX.TD.isAgg, SX.TD.isIface, SX.tails, SX.NotAgg, SX.evLookup, SX.evConvH, SX.evPtrEq, SX.isCells, SX.thaw, SX.frz, SX.fixB, SX.rootIx, SX.Froz, SX.frzStep, SX.fork, Go.Value.cells, Go.undef, cfg5]
        refine ⟨by (unfold SX.Ob; first | trivial | omega | ((try simp only [SX.inK]); (try simp [SX.den, SX.IsU8, SX.AllP, *]); (try omega))), ?_⟩
        intro a11 w11 hr11 _
        exact post_inv (hr11.re (by simp [envTo, SX.look, den, jl]) trivial rfl rfl)
      · refine seg cfg5_ok mixed PanicFree.body 1000 [] [] hr7 (by first | trivial | exact HpRep.nil | assumption) (by kernel_rfl) fun s_ hs_ => ?_
        simp (maxSteps := 10000000) [SX.vc, SX.stop, SX.contS, SX.contB, SX.contW, SX.contR, SX.contD, SX.sxStep, SX.stepPure, SX.stepNew, SX.stepStore, SX.stepKeep, SX.guardIx, SX.evOp, SX.opd, SX.opds, SX.optOpd, SX.look, SX.putS, SX.gobs, SX.AllP, SX.leave, SX.lookC, SX.lookB, SX.lookT, SX.lookN, SX.findK, SX.evBuiltin, SX.ints, SX.foldI, SX.evBin, SX.evInt, SX.evStr, SX.evEq, SX.arith, SX.evLoad, SX.shapeUp, SX.evFieldAddr, SX.evField, SX.evIndexAddr, SX.evIndex, SX.evFill, SX.evBuild, SX.szs, SX.cellsV, SX.evNew, SX.evStore, SX.spliceL, SX.SV.cells, SX.evConv, SX.evSlice, SX.bnd, SX.evNil, SX.evUn, SX.evPick, SX.pickOpd, SX.popTo, SX.cnd, SX.env0, SX.TD.isAgg, SX.TD.isIface, SX.tails, SX.NotAgg, SX.evLookup, SX.evConvH, SX.evPtrEq, SX.isCells, SX.thaw, SX.frz, SX.fixB, SX.rootIx, SX.Froz, SX.frzStep, SX.fork, Go.Value.cells, Go.undef, cfg5]
        refine ⟨by (unfold SX.Ob; first | trivial | omega | ((try simp only [SX.inK]); (try simp [SX.den, SX.IsU8, SX.AllP, *]); (try omega))), ?_⟩
        intro a9 w9 hr9 _
        refine post_call 9 [.v (.slice (some ad) 0 cp)] hr9 (by first | exact wanted_none rfl | exact wanted_zero (hr9.env.same rfl rfl rfl rfl) rfl (by simp) | exact wanted_zero (hr9.env.same rfl rfl rfl rfl) rfl (by simp [*])) rfl (callable 9 Try.func9) (judge0_ok w9 _ _) ?_
        rintro e10 w10 ⟨k2, rfl, hk2, hpre2, hb10⟩
        refine ⟨_, rfl, ?_⟩
        have h10 := hr9.ret hb10 49 (.tu [.v (.int .i64 k2), .v (.bool (jl noM ([] : List HEv)))]) rfl _ (hr9.all.below hb10) (by simp) rfl
        have hp3 : jl noM ([] : List HEv) = decide (((0 : Nat) : Int) ≤ (k : Int)) := hp2
        rw [hp3] at h10
        refine seg cfg5_ok mixed PanicFree.body 1000 [] [] h10 (by first | trivial | exact HpRep.nil | assumption) (by kernel_rfl) fun s_ hs_ => ?_
        simp (maxSteps := 10000000) [SX.vc, SX.stop, SX.contS, SX.contB, SX.contW, SX.contR, SX.contD, SX.sxStep, SX.stepPure, SX.stepNew, SX.stepStore, SX.stepKeep, SX.guardIx, SX.evOp, SX.opd, SX.opds, SX.optOpd, SX.look, SX.putS, SX.gobs, SX.AllP, SX.leave, SX.lookC, SX.lookB, SX.lookT, SX.lookN, SX.findK, SX.evBuiltin, SX.ints, SX.foldI, SX.evBin, SX.evInt, SX.evStr, SX.evEq, SX.arith, SX.evLoad, SX.shapeUp, SX.evFieldAddr, SX.evField, SX.evIndexAddr, SX.evIndex, SX.evFill, SX.evBuild, SX.szs, SX.cellsV, SX.evNew, SX.evStore, SX.spliceL, SX.SV.cells, SX.evConv, SX.evSlice, SX.bnd, SX.evNil, SX.evUn, SX.evPick, SX.pickOpd, SX.popTo, SX.cnd, SX.env0, SX.TD.isAgg, SX.TD.isIface, SX.tails, SX.NotAgg, SX.evLookup, SX.evConvH, SX.evPtrEq, SX.isCells, SX.thaw, SX.frz, SX.fixB, SX.rootIx, SX.Froz, SX.frzStep, SX.fork, Go.Value.cells, Go.undef, cfg5]
        refine ⟨by (unfold SX.Ob; first | trivial | omega | ((try simp only [SX.inK]); (try simp [SX.den, SX.IsU8, SX.AllP, *]); (try omega))), ?_⟩
        intro a11 w11 hr11 _
        exact post_inv (hr11.re (by simp [envTo, SX.look, den, jl]) trivial rfl rfl)
    · obtain ⟨b, o0, cap, u, fz, hP, hv, hrep⟩ := hL7.opn (show 0 < L.length by omega)
      rw [hln] at hv hrep
      have hcap := hL7.cap rfl
      cases hv
      have hqc : q ≤ cp := by
        first
        | omega
        | (have h1 := hcap; simp at h1; omega)
      have h8 := (hr7.top 46 (.sl 0 b o0 0 ln cp 5) rfl (by simp [den])).see [(b, false, .arr o0 ln (fun j => evRow (nth zeroEv L j)) 5 u fz)] (HpAll.one hrep)
      refine seg cfg5_ok mixed PanicFree.body 1000 [] [] h8 (by first | trivial | exact HpRep.nil | assumption) (by kernel_rfl) fun s_ hs_ => ?_
      simp (maxSteps := 10000000) [SX.vc, SX.stop, SX.contS, SX.contB, SX.contW, SX.contR, SX.contD, SX.sxStep, SX.stepPure, SX.stepNew, SX.stepStore, SX.stepKeep, SX.guardIx, SX.evOp, SX.opd, SX.opds, SX.optOpd, SX.look, SX.putS, SX.gobs, SX.AllP, SX.leave, SX.lookC, SX.lookB, SX.lookT, SX.lookN, SX.findK, SX.evBuiltin, SX.ints, SX.foldI, SX.evBin, SX.evInt, SX.evStr, SX.evEq, SX.arith, SX.evLoad, SX.shapeUp, SX.evFieldAddr, SX.evField, SX.evIndexAddr, SX.evIndex, SX.evFill, SX.evBuild, SX.szs, SX.cellsV, SX.evNew, SX.evStore, SX.spliceL, SX.SV.cells, SX.evConv, SX.evSlice, SX.bnd, SX.evNil, SX.evUn, SX.evPick, SX.pickOpd, SX.popTo, SX.cnd, SX.env0, SX.TD.isAgg, SX.TD.isIface, SX.tails, SX.NotAgg, SX.evLookup, SX.evConvH, SX.evPtrEq, SX.isCells, SX.thaw, SX.frz, SX.fixB, SX.rootIx, SX.Froz, SX.frzStep, SX.fork, Go.Value.cells, Go.undef, cfg5, hqc]
      refine ⟨by (unfold SX.Ob; first | trivial | omega | ((try simp only [SX.inK]); (try simp [SX.den, SX.IsU8, SX.AllP, *]); (try omega))), ?_⟩
      intro a9 w9 hr9 _
      refine post_call 9 [.sl 0 b o0 0 q cp 5] hr9 (wanted_none rfl) rfl (callable 9 Try.func9) (Calls.mono (judge_ok w9 0 b o0 ln q cp (nth zeroEv L) u fz (by first | exact hr9.all.1.1 | (have h := hr9.all.1.1; simpa [evRow] using h)) hq1 (by omega)) (fun e w' h => jl_post (L := L.take q) (f := nth zeroEv L) (fun j hj => by
        rw [List.length_take] at hj
        rw [List.getElem?_take_of_lt (by omega), nth_lt (by omega), List.getElem?_eq_getElem]) (by rw [List.length_take, hln, Nat.min_eq_left hq1]; exact h))) ?_
      rintro e10 w10 ⟨k2, rfl, hk2, hpre2, hb10⟩
      refine ⟨_, rfl, ?_⟩
      have h10 := hr9.ret hb10 49 (.tu [.v (.int .i64 k2), .v (.bool (jl noM (L.take q)))]) rfl _ (hr9.all.below hb10) (by simp) rfl
      have h10b := h10.top 49 (.tu [.v (.int .i64 k2), .v (.bool (decide ((q : Int) ≤ (k : Int))))]) rfl (by rw [hp2])
      refine seg cfg5_ok mixed PanicFree.body 1000 [] [] h10b (by first | trivial | exact HpRep.nil | assumption) (by kernel_rfl) fun s_ hs_ => ?_
      simp (maxSteps := 10000000) [SX.vc, SX.stop, SX.contS, SX.contB, SX.contW, SX.contR, SX.contD, SX.sxStep, SX.stepPure, SX.stepNew, SX.stepStore, SX.stepKeep, SX.guardIx, SX.evOp, SX.opd, SX.opds, SX.optOpd, SX.look, SX.putS, SX.gobs, SX.AllP, SX.leave, SX.lookC, SX.lookB, SX.lookT, SX.lookN, SX.findK, SX.evBuiltin, SX.ints, SX.foldI, SX.evBin, SX.evInt, SX.evStr, SX.evEq, SX.arith, SX.evLoad, SX.shapeUp, SX.evFieldAddr, SX.evField, SX.evIndexAddr, SX.evIndex, SX.evFill, SX.evBuild, SX.szs, SX.cellsV, SX.evNew, SX.evStore, SX.spliceL, SX.SV.cells, SX.evConv, SX.evSlice, SX.bnd, SX.evNil, SX.evUn, SX.evPick, SX.pickOpd, SX.popTo, SX.cnd, SX.env0, SX.TD.isAgg, SX.TD.isIface, SX.tails, SX.NotAgg, SX.evLookup, SX.evConvH, SX.evPtrEq, SX.isCells, SX.thaw, SX.frz, SX.fixB, SX.rootIx, SX.Froz, SX.frzStep, SX.fork, Go.Value.cells, Go.undef, cfg5]
      refine ⟨by (unfold SX.Ob; first | trivial | omega | ((try simp only [SX.inK]); (try simp [SX.den, SX.IsU8, SX.AllP, *]); (try omega))), ?_⟩
      intro a11 w11 hr11 _
      exact post_inv (hr11.re (by simp [envTo, SX.look, den]) trivial rfl rfl)
  clear hr hr1 h2 hr3 h4 hr5a hr5 h6 hr7
  have hr8 : RepX (frame0 w) ⟨[(9, 0, .v (.bool (decide ((q : Int) ≤ (k : Int))))), (7, 0, .v (.bool (jl noM L))), (6, 0, .v (.int .i64 k)), (5, 0, .v (.bool true)), (1, 0, .v (.int .i64 q)), (0, 0, .v (.slice ad ln cp))], [], 0, 0, 113, [], [], []⟩ a8 w8 := hJ
  have z8 : w.heap.size ≤ w8.heap.size := hr8.keeps.size
  refine seg cfg5_ok mixed PanicFree.body 1000 [false] [] hr8 (by first | trivial | exact HpRep.nil | assumption) (by kernel_rfl) fun s_ hs_ => ?_
  simp (maxSteps := 10000000) [SX.vc, SX.stop, SX.contS, SX.contB, SX.contW, SX.contR, SX.contD, SX.sxStep, SX.stepPure, SX.stepNew, SX.stepStore, SX.stepKeep, SX.guardIx, SX.evOp, SX.opd, SX.opds, SX.optOpd, SX.look, SX.putS, SX.gobs, SX.AllP, SX.leave, SX.lookC, SX.lookB, SX.lookT, SX.lookN, SX.findK, SX.evBuiltin, SX.ints, SX.foldI, SX.evBin, SX.evInt, SX.evStr, SX.evEq, SX.arith, SX.evLoad, SX.shapeUp, SX.evFieldAddr, SX.evField, SX.evIndexAddr, SX.evIndex, SX.evFill, SX.evBuild, SX.szs, SX.cellsV, SX.evNew, SX.evStore, SX.spliceL, SX.SV.cells, SX.evConv, SX.evSlice, SX.bnd, SX.evNil, SX.evUn, SX.evPick, SX.pickOpd, SX.popTo, SX.cnd, SX.env0, SX.TD.isAgg, SX.TD.isIface, SX.tails, SX.NotAgg, SX.evLookup, SX.evConvH, SX.evPtrEq, SX.isCells, SX.thaw, SX.frz, SX.fixB, SX.rootIx, SX.Froz, SX.frzStep, SX.fork, Go.Value.cells, Go.undef, cfg5]
  refine ⟨by (unfold SX.Ob; first | trivial | omega | ((try simp only [SX.inK]); (try simp [SX.den, SX.IsU8, SX.AllP, *]); (try omega))), ?_⟩
  intro a9 w9 hr9 _
  have z9 : w.heap.size ≤ w9.heap.size := hr9.keeps.size
  refine post_call 12 [.v (.slice ad ln cp)] hr9 (by first | exact wanted_none rfl | exact wanted_zero (hr9.env.same rfl rfl rfl rfl) rfl (by simp) | exact wanted_zero (hr9.env.same rfl rfl rfl rfl) rfl (by simp [*])) rfl (callable 12 Try.func12) (blocks_ok w9 _ L ((hL.below hr9.keeps.toBelow).mono fun x _ h => by omega) (by omega) hI) ?_
  rintro e10 w10 ⟨vk, K, rfl, hK, hpw, hmem, hb10⟩
  refine ⟨_, rfl, ?_⟩
  have h10 := hr9.ret hb10 58 (.v vk) rfl _ (hr9.all.below hb10) (by simp) rfl
  obtain ⟨adk, nk, cpk, rfl, hnk⟩ : ∃ ad n cp, vk = Value.slice ad n cp ∧ n = K.length := by
    obtain ⟨x1, x2, h1⟩ := hK.slice
    exact ⟨_, _, _, h1, rfl⟩
  have hkl : nk ≤ 399 := by
    have h1 := nodup_le K (L.map HEv.lba) (hpw.imp fun h => by omega) fun x hx => by
      obtain ⟨e, he, h2⟩ := (hmem x).1 hx
      exact List.mem_map.2 ⟨e, he, h2⟩
    rw [List.length_map] at h1
    omega
  have hK10 := hK.mono (P' := fun x => x < w10.heap.size) fun x h1 _ => h1
  have z10 : w.heap.size ≤ w10.heap.size := h10.keeps.size
  have hL10 := (hL.below h10.keeps.toBelow).mono (P' := fun x => x < w10.heap.size) fun x h1 _ => h1
  refine seg cfg5_ok mixed PanicFree.body 1000 [] [] h10.rebase (by first | trivial | exact HpRep.nil | assumption) (by kernel_rfl) fun s_ hs_ => ?_
  simp (maxSteps := 10000000) [SX.vc, SX.stop, SX.contS, SX.contB, SX.contW, SX.contR, SX.contD, SX.sxStep, SX.stepPure, SX.stepNew, SX.stepStore, SX.stepKeep, SX.guardIx, SX.evOp, SX.opd, SX.opds, SX.optOpd, SX.look, SX.putS, SX.gobs, SX.AllP, SX.leave, SX.lookC, SX.lookB, SX.lookT, SX.lookN, SX.findK, SX.evBuiltin, SX.ints, SX.foldI, SX.evBin, SX.evInt, SX.evStr, SX.evEq, SX.arith, SX.evLoad, SX.shapeUp, SX.evFieldAddr, SX.evField, SX.evIndexAddr, SX.evIndex, SX.evFill, SX.evBuild, SX.szs, SX.cellsV, SX.evNew, SX.evStore, SX.spliceL, SX.SV.cells, SX.evConv, SX.evSlice, SX.bnd, SX.evNil, SX.evUn, SX.evPick, SX.pickOpd, SX.popTo, SX.cnd, SX.env0, SX.TD.isAgg, SX.TD.isIface, SX.tails, SX.NotAgg, SX.evLookup, SX.evConvH, SX.evPtrEq, SX.isCells, SX.thaw, SX.frz, SX.fixB, SX.rootIx, SX.Froz, SX.frzStep, SX.fork, Go.Value.cells, Go.undef, cfg5]
  refine ⟨by (unfold SX.Ob; first | trivial | omega | ((try simp only [SX.inK]); (try simp [SX.den, SX.IsU8, SX.AllP, *]); (try omega))), ?_⟩
  intro a11 w11 hr11 _
  refine post_loop (PaL0 (frameAt w10 []) L K ln nk (jl noM L) (.slice ad ln cp) (.slice adk nk cpk)) _ ⟨0, rfl, by omega, hr11.re (by simp [envTo, SX.look]) trivial rfl rfl⟩ ?_
  clear hr11
  rintro m a12 w12 ⟨i, rfl, hi, hr12⟩
  have hkeep12 := hr12.keeps
  have z12 : w10.heap.size ≤ w12.heap.size := hr12.keeps.size
  have hK12 := hK10.keep hr12.keeps (by simp [frameAt, mutB])
  have hL12 := hL10.keep hr12.keeps (by simp [frameAt, mutB])
  by_cases hlt : i < nk
  rotate_left
  · obtain rfl : i = nk := by omega
    have hlt' : ¬ (i : Int) < (i : Int) := by omega
    have hall := jl_blocks L K hmem
    rw [hnk, List.take_length, hall, ← hnk] at hr12
    refine seg cfg5_ok mixed PanicFree.body 1000 [false] [(108, true)] hr12 (by first | trivial | exact HpRep.nil | assumption) (by kernel_rfl) fun s_ hs_ => ?_
    simp (maxSteps := 10000000) [SX.vc, SX.stop, SX.contS, SX.contB, SX.contW, SX.contR, SX.contD, SX.sxStep, SX.stepPure, SX.stepNew, SX.stepStore, SX.stepKeep, SX.guardIx, SX.evOp, SX.opd, SX.opds, SX.optOpd, SX.look, SX.putS, SX.gobs, SX.AllP, SX.leave, SX.lookC, SX.lookB, SX.lookT, SX.lookN, SX.findK, SX.evBuiltin, SX.ints, SX.foldI, SX.evBin, SX.evInt, SX.evStr, SX.evEq, SX.arith, SX.evLoad, SX.shapeUp, SX.evFieldAddr, SX.evField, SX.evIndexAddr, SX.evIndex, SX.evFill, SX.evBuild, SX.szs, SX.cellsV, SX.evNew, SX.evStore, SX.spliceL, SX.SV.cells, SX.evConv, SX.evSlice, SX.bnd, SX.evNil, SX.evUn, SX.evPick, SX.pickOpd, SX.popTo, SX.cnd, SX.env0, SX.TD.isAgg, SX.TD.isIface, SX.tails, SX.NotAgg, SX.evLookup, SX.evConvH, SX.evPtrEq, SX.isCells, SX.thaw, SX.frz, SX.fixB, SX.rootIx, SX.Froz, SX.frzStep, SX.fork, Go.Value.cells, Go.undef, cfg5]
    refine ⟨by (unfold SX.Ob; first | trivial | omega | ((try simp only [SX.inK]); (try simp [SX.den, SX.IsU8, SX.AllP, *]); (try omega))), ?_⟩
    intro a13 w13 hr13' _
    have hr13 := h10.unbase hr13'
    exact post_retn (end1 hr13 rfl rfl ⟨rfl, hr13.keeps.toBelow⟩).1
  obtain ⟨bk, ok, capk, uk, fzk, hPk, hvk, hrepk⟩ := hK12.opn (show i < K.length by omega)
  rw [← hnk] at hvk hrepk
  cases hvk
  obtain ⟨x, hx⟩ : ∃ x, nth (0 : Int) K i = x := ⟨_, rfl⟩
  have h13 := (hr12.top 58 (.sl 0 bk ok 0 nk cpk 1) rfl (by simp [den])).see [(bk, false, .arr ok nk (fun j => intR (nth (0 : Int) K j)) 1 uk fzk)] (HpAll.one hrepk)
  refine seg cfg5_ok mixed PanicFree.body 1000 [true] [] h13 (by first | trivial | exact HpRep.nil | assumption) (by kernel_rfl) fun s_ hs_ => ?_
  simp (maxSteps := 10000000) [SX.vc, SX.stop, SX.contS, SX.contB, SX.contW, SX.contR, SX.contD, SX.sxStep, SX.stepPure, SX.stepNew, SX.stepStore, SX.stepKeep, SX.guardIx, SX.evOp, SX.opd, SX.opds, SX.optOpd, SX.look, SX.putS, SX.gobs, SX.AllP, SX.leave, SX.lookC, SX.lookB, SX.lookT, SX.lookN, SX.findK, SX.evBuiltin, SX.ints, SX.foldI, SX.evBin, SX.evInt, SX.evStr, SX.evEq, SX.arith, SX.evLoad, SX.shapeUp, SX.evFieldAddr, SX.evField, SX.evIndexAddr, SX.evIndex, SX.evFill, SX.evBuild, SX.szs, SX.cellsV, SX.evNew, SX.evStore, SX.spliceL, SX.SV.cells, SX.evConv, SX.evSlice, SX.bnd, SX.evNil, SX.evUn, SX.evPick, SX.pickOpd, SX.popTo, SX.cnd, SX.env0, SX.TD.isAgg, SX.TD.isIface, SX.tails, SX.NotAgg, SX.evLookup, SX.evConvH, SX.evPtrEq, SX.isCells, SX.thaw, SX.frz, SX.fixB, SX.rootIx, SX.Froz, SX.frzStep, SX.fork, Go.Value.cells, Go.undef, cfg5, intR, hx, hlt]
  refine ⟨by (unfold SX.Ob; first | trivial | omega | ((try simp only [SX.inK]); (try simp [SX.den, SX.IsU8, SX.AllP, *]); (try omega))), ?_⟩
  intro a14 w14 hr14 _
  refine post_loop (PaL2 (frameAt w10 []) L K ln nk i x (jl noM L) (.slice ad ln cp) (.slice (some ⟨bk, ok, none⟩) nk cpk)) _ ⟨0, .slice none 0 0, .slice none 0 0, fun _ => False, fun _ => False, rfl, by omega, OwS.nil, OwS.nil, fun _ h => h.elim, fun _ h => h.elim, fun _ h => h.elim, hr14.re (by simp [envTo, SX.look, den]) trivial rfl rfl⟩ ?_
  clear h13 hr14 hr12 hkeep12 hK12 hL12 hrepk
  rintro m a18 w18 ⟨j, vo, vp, PA, PB, rfl, hj, hOA, hOB, hAB, hPA, hPB, hr18⟩
  have z18 : w10.heap.size ≤ w18.heap.size := hr18.keeps.size
  have hL18 := hL10.keep hr18.keeps (by simp [frameAt, mutB])
  by_cases hlt6 : j < ln
  · obtain ⟨b, o0, cap, u, fz, hP, hv, hrep⟩ := hL18.opn (show j < L.length by omega)
    rw [hln] at hv hrep
    cases hv
    obtain ⟨y, hy⟩ : ∃ y, nth zeroEv L j = y := ⟨_, rfl⟩
    have hlj : j < L.length := by omega
    have hf1 := filter_takeH (p := fun e => decide (e.lba = x)) hlj hy
    have hf2 := filter_takeH (p := fun e => !decide (e.lba = x)) hlj hy
    have hwl : (ofB x (List.take j L)).length ≤ 100000 := Nat.le_trans (List.length_filter_le _ _) (by simp; omega)
    have hwl2 : (notB x (List.take j L)).length ≤ 100000 := Nat.le_trans (List.length_filter_le _ _) (by simp; omega)
    have h20 := (hr18.top 64 (.sl 0 b o0 0 ln cp 5) rfl (by simp [den])).see [(b, false, .arr o0 ln (fun j => evRow (nth zeroEv L j)) 5 u fz)] (HpAll.one hrep)
    by_cases hA : y.lba = x
    · have e1 : ofB x (L.take (j + 1)) = ofB x (L.take j) ++ [y] := by unfold ofB; rw [hf1]; simp [hA]
      have e2 : notB x (L.take (j + 1)) = notB x (L.take j) := by unfold notB; rw [hf2]; simp [hA]
      refine seg cfg5_ok mixed PanicFree.body 1000 [true, true] [] h20.rebase (by first | trivial | exact HpRep.nil | assumption) (by kernel_rfl) fun s_ hs_ => ?_
      simp (maxSteps := 10000000) [SX.vc, SX.stop, SX.contS, SX.contB, SX.contW, SX.contR, SX.contD, SX.sxStep, SX.stepPure, SX.stepNew, SX.stepStore, SX.stepKeep, SX.guardIx, SX.evOp, SX.opd, SX.opds, SX.optOpd, SX.look, SX.putS, SX.gobs, SX.AllP, SX.leave, SX.lookC, SX.lookB, SX.lookT, SX.lookN, SX.findK, SX.evBuiltin, SX.ints, SX.foldI, SX.evBin, SX.evInt, SX.evStr, SX.evEq, SX.arith, SX.evLoad, SX.shapeUp, SX.evFieldAddr, SX.evField, SX.evIndexAddr, SX.evIndex, SX.evFill, SX.evBuild, SX.szs, SX.cellsV, SX.evNew, SX.evStore, SX.spliceL, SX.SV.cells, SX.evConv, SX.evSlice, SX.bnd, SX.evNil, SX.evUn, SX.evPick, SX.pickOpd, SX.popTo, SX.cnd, SX.env0, SX.TD.isAgg, SX.TD.isIface, SX.tails, SX.NotAgg, SX.evLookup, SX.evConvH, SX.evPtrEq, SX.isCells, SX.thaw, SX.frz, SX.fixB, SX.rootIx, SX.Froz, SX.frzStep, SX.fork, Go.Value.cells, Go.undef, cfg5, evRow, hy, hA, hlj, hlt6]
      refine ⟨by (unfold SX.Ob; first | trivial | omega | ((try simp only [SX.inK]); (try simp [SX.den, SX.IsU8, SX.AllP, *]); (try omega))), ?_⟩
      intro a6 w6 hr6' _
      have hr6 := h20.unbase hr6'
      have z6 : w18.heap.size ≤ w6.heap.size := hr6'.keeps.size
      have hO6 := (hOA.keep hr6'.keeps (by simp [frameAt, mutB])).mono (P' := fun x => PA x ∨ w6.heap.size ≤ x) fun x _ h => .inl h
      have hQ6 := hOB.keep hr6'.keeps (by simp [frameAt, mutB])
      have hF6 : ∀ x, (PA x ∨ w6.heap.size ≤ x) → (frameAt w10 ([] : Hp)).B ≤ x ∨ x ∈ (frameAt w10 ([] : Hp)).M := fun x hx => .inl (by
        rcases hx with h | h
        · exact (hPA _ h).1
        · simp only [frameAt]; omega)
      have hA6 := hr6.all
      refine post_app (C := cfg5) cfg5_ok hr6 (by first | exact wanted_none rfl | exact wanted_zero (hr6.env.same rfl rfl rfl rfl) rfl (by simp)) rfl (by simp) rfl rfl rfl rfl rfl rfl rfl rfl rfl (by decide) (flatH _) (by (try simp only [List.length_append, List.length_cons, List.length_nil, List.length_map, List.length_take]); omega) (fun x hx => .inr hx) hO6 (RdS.lit (enc := evRow) (sz := 5) (d := zeroEv) (x := y) hr6.all.2.2.1.1 (by simp [evRow, hA])) [] (fun w' B hk hB' => trivial) hF6 fun V7 a7 w7 B7 hO7 hB7 hk7 hr7 => ?_
      have z7 : w6.heap.size ≤ w7.heap.size := hk7.size
      have hQ7 := hQ6.keep hk7 (fun y hy hQ => by
        have g := (hB7 y hy).1
        rcases g with g | g
        · exact hAB y g hQ
        · have := (hPB _ hQ).2
          omega)
      obtain ⟨adV, nV, cpV, rfl⟩ : ∃ ad n cp, V7 = Value.slice ad n cp := by obtain ⟨x1, x2, h1⟩ := hO7.slice; exact ⟨_, _, _, h1⟩
      refine seg cfg5_ok mixed PanicFree.body 1000 [] [] hr7.rebase (by first | trivial | exact HpRep.nil | assumption) (by kernel_rfl) fun s_ hs_ => ?_
      simp (maxSteps := 10000000) [SX.vc, SX.stop, SX.contS, SX.contB, SX.contW, SX.contR, SX.contD, SX.sxStep, SX.stepPure, SX.stepNew, SX.stepStore, SX.stepKeep, SX.guardIx, SX.evOp, SX.opd, SX.opds, SX.optOpd, SX.look, SX.putS, SX.gobs, SX.AllP, SX.leave, SX.lookC, SX.lookB, SX.lookT, SX.lookN, SX.findK, SX.evBuiltin, SX.ints, SX.foldI, SX.evBin, SX.evInt, SX.evStr, SX.evEq, SX.arith, SX.evLoad, SX.shapeUp, SX.evFieldAddr, SX.evField, SX.evIndexAddr, SX.evIndex, SX.evFill, SX.evBuild, SX.szs, SX.cellsV, SX.evNew, SX.evStore, SX.spliceL, SX.SV.cells, SX.evConv, SX.evSlice, SX.bnd, SX.evNil, SX.evUn, SX.evPick, SX.pickOpd, SX.popTo, SX.cnd, SX.env0, SX.TD.isAgg, SX.TD.isIface, SX.tails, SX.NotAgg, SX.evLookup, SX.evConvH, SX.evPtrEq, SX.isCells, SX.thaw, SX.frz, SX.fixB, SX.rootIx, SX.Froz, SX.frzStep, SX.fork, Go.Value.cells, Go.undef, cfg5]
      refine ⟨by (unfold SX.Ob; first | trivial | omega | ((try simp only [SX.inK]); (try simp [SX.den, SX.IsU8, SX.AllP, *]); (try omega))), ?_⟩
      intro a8 w8' hr8' _
      have hr8 := hr7.unbase hr8'
      have z8' : w7.heap.size ≤ w8'.heap.size := hr8'.keeps.size
      have hO8 := (hO7.mono (P' := fun x => (PA x ∨ w6.heap.size ≤ x) ∧ x < w7.heap.size) fun x h1 h2 => ⟨h2, h1⟩).keep hr8'.keeps (by simp [frameAt, mutB])
      have hQ8 := hQ7.keep hr8'.keeps (by simp [frameAt, mutB])
      rw [← e1] at hO8
      rw [← e2] at hQ8
      exact post_rnd (ln - (j + 1)) (by omega) ⟨j + 1, _, vp, _, PB, rfl, by omega, hO8, hQ8, fun y h1 h2 => (by
        rcases h1.1 with g | g
        · exact hAB y g h2
        · have := (hPB _ h2).2; omega), fun y h1 => (by
        rcases h1.1 with g | g
        · have := hPA _ g; omega
        · simp only [frameAt]; omega), fun y h1 => (by have := hPB _ h1; omega), hr8.re (by simp [envTo, SX.look, den]) trivial rfl rfl⟩
    · have e1 : ofB x (L.take (j + 1)) = ofB x (L.take j) := by unfold ofB; rw [hf1]; simp [hA]
      have e2 : notB x (L.take (j + 1)) = notB x (L.take j) ++ [y] := by unfold notB; rw [hf2]; simp [hA]
      refine seg cfg5_ok mixed PanicFree.body 1000 [true, false] [] h20.rebase (by first | trivial | exact HpRep.nil | assumption) (by kernel_rfl) fun s_ hs_ => ?_
      simp (maxSteps := 10000000) [SX.vc, SX.stop, SX.contS, SX.contB, SX.contW, SX.contR, SX.contD, SX.sxStep, SX.stepPure, SX.stepNew, SX.stepStore, SX.stepKeep, SX.guardIx, SX.evOp, SX.opd, SX.opds, SX.optOpd, SX.look, SX.putS, SX.gobs, SX.AllP, SX.leave, SX.lookC, SX.lookB, SX.lookT, SX.lookN, SX.findK, SX.evBuiltin, SX.ints, SX.foldI, SX.evBin, SX.evInt, SX.evStr, SX.evEq, SX.arith, SX.evLoad, SX.shapeUp, SX.evFieldAddr, SX.evField, SX.evIndexAddr, SX.evIndex, SX.evFill, SX.evBuild, SX.szs, SX.cellsV, SX.evNew, SX.evStore, SX.spliceL, SX.SV.cells, SX.evConv, SX.evSlice, SX.bnd, SX.evNil, SX.evUn, SX.evPick, SX.pickOpd, SX.popTo, SX.cnd, SX.env0, SX.TD.isAgg, SX.TD.isIface, SX.tails, SX.NotAgg, SX.evLookup, SX.evConvH, SX.evPtrEq, SX.isCells, SX.thaw, SX.frz, SX.fixB, SX.rootIx, SX.Froz, SX.frzStep, SX.fork, Go.Value.cells, Go.undef, cfg5, evRow, hy, hA, hlj, hlt6]
      refine ⟨by (unfold SX.Ob; first | trivial | omega | ((try simp only [SX.inK]); (try simp [SX.den, SX.IsU8, SX.AllP, *]); (try omega))), ?_⟩
      intro a6 w6 hr6' _
      have hr6 := h20.unbase hr6'
      have z6 : w18.heap.size ≤ w6.heap.size := hr6'.keeps.size
      have hO6 := (hOB.keep hr6'.keeps (by simp [frameAt, mutB])).mono (P' := fun x => PB x ∨ w6.heap.size ≤ x) fun x _ h => .inl h
      have hQ6 := hOA.keep hr6'.keeps (by simp [frameAt, mutB])
      have hF6 : ∀ x, (PB x ∨ w6.heap.size ≤ x) → (frameAt w10 ([] : Hp)).B ≤ x ∨ x ∈ (frameAt w10 ([] : Hp)).M := fun x hx => .inl (by
        rcases hx with h | h
        · exact (hPB _ h).1
        · simp only [frameAt]; omega)
      have hA6 := hr6.all
      refine post_app (C := cfg5) cfg5_ok hr6 (by first | exact wanted_none rfl | exact wanted_zero (hr6.env.same rfl rfl rfl rfl) rfl (by simp)) rfl (by simp) rfl rfl rfl rfl rfl rfl rfl rfl rfl (by decide) (flatH _) (by (try simp only [List.length_append, List.length_cons, List.length_nil, List.length_map, List.length_take]); omega) (fun x hx => .inr hx) hO6 (RdS.lit (enc := evRow) (sz := 5) (d := zeroEv) (x := y) hr6.all.2.2.1.1 (by simp [evRow, hA])) [] (fun w' B hk hB' => trivial) hF6 fun V7 a7 w7 B7 hO7 hB7 hk7 hr7 => ?_
      have z7 : w6.heap.size ≤ w7.heap.size := hk7.size
      have hQ7 := hQ6.keep hk7 (fun y hy hQ => by
        have g := (hB7 y hy).1
        rcases g with g | g
        · exact hAB y hQ g
        · have := (hPA _ hQ).2
          omega)
      obtain ⟨adV, nV, cpV, rfl⟩ : ∃ ad n cp, V7 = Value.slice ad n cp := by obtain ⟨x1, x2, h1⟩ := hO7.slice; exact ⟨_, _, _, h1⟩
      refine seg cfg5_ok mixed PanicFree.body 1000 [] [] hr7.rebase (by first | trivial | exact HpRep.nil | assumption) (by kernel_rfl) fun s_ hs_ => ?_
      simp (maxSteps := 10000000) [SX.vc, SX.stop, SX.contS, SX.contB, SX.contW, SX.contR, SX.contD, SX.sxStep, SX.stepPure, SX.stepNew, SX.stepStore, SX.stepKeep, SX.guardIx, SX.evOp, SX.opd, SX.opds, SX.optOpd, SX.look, SX.putS, SX.gobs, SX.AllP, SX.leave, SX.lookC, SX.lookB, SX.lookT, SX.lookN, SX.findK, SX.evBuiltin, SX.ints, SX.foldI, SX.evBin, SX.evInt, SX.evStr, SX.evEq, SX.arith, SX.evLoad, SX.shapeUp, SX.evFieldAddr, SX.evField, SX.evIndexAddr, SX.evIndex, SX.evFill, SX.evBuild, SX.szs, SX.cellsV, SX.evNew, SX.evStore, SX.spliceL, SX.SV.cells, SX.evConv, SX.evSlice, SX.bnd, SX.evNil, SX.evUn, SX.evPick, SX.pickOpd, SX.popTo, SX.cnd, SX.env0, SX.TD.isAgg, SX.TD.isIface, SX.tails, SX.NotAgg, SX.evLookup, SX.evConvH, SX.evPtrEq, SX.isCells, SX.thaw, SX.frz, SX.fixB, SX.rootIx, SX.Froz, SX.frzStep, SX.fork, Go.Value.cells, Go.undef, cfg5]
      refine ⟨by (unfold SX.Ob; first | trivial | omega | ((try simp only [SX.inK]); (try simp [SX.den, SX.IsU8, SX.AllP, *]); (try omega))), ?_⟩
      intro a8 w8' hr8' _
      have hr8 := hr7.unbase hr8'
      have z8' : w7.heap.size ≤ w8'.heap.size := hr8'.keeps.size
      have hO8 := (hO7.mono (P' := fun x => (PB x ∨ w6.heap.size ≤ x) ∧ x < w7.heap.size) fun x h1 h2 => ⟨h2, h1⟩).keep hr8'.keeps (by simp [frameAt, mutB])
      have hQ8 := hQ7.keep hr8'.keeps (by simp [frameAt, mutB])
      rw [← e2] at hO8
      rw [← e1] at hQ8
      exact post_rnd (ln - (j + 1)) (by omega) ⟨j + 1, vo, _, PA, _, rfl, by omega, hQ8, hO8, fun y h2 h1 => (by
        rcases h1.1 with g | g
        · exact hAB y h2 g
        · have := (hPA _ h2).2; omega), fun y h1 => (by have := hPA _ h1; omega), fun y h1 => (by
        rcases h1.1 with g | g
        · have := hPB _ g; omega
        · simp only [frameAt]; omega), hr8.re (by simp [envTo, SX.look, den]) trivial rfl rfl⟩
  have hjl : j = L.length := by omega
  rw [hjl, List.take_length] at hOA hOB
  have hlt6' : ¬ (j : Int) < (ln : Int) := by omega
  have hwl : (ofB x L).length ≤ 100000 := Nat.le_trans (List.length_filter_le _ _) (by omega)
  have hwl2 : (notB x L).length ≤ 100000 := Nat.le_trans (List.length_filter_le _ _) (by omega)
  obtain ⟨ado, no, cpo, rfl⟩ : ∃ ad n cp, vo = Value.slice ad n cp := by obtain ⟨x1, x2, h1⟩ := hOA.slice; exact ⟨_, _, _, h1⟩
  obtain ⟨adp, np, cpp, rfl⟩ : ∃ ad n cp, vp = Value.slice ad n cp := by obtain ⟨x1, x2, h1⟩ := hOB.slice; exact ⟨_, _, _, h1⟩
  refine seg cfg5_ok mixed PanicFree.body 1000 [false] [] hr18.rebase (by first | trivial | exact HpRep.nil | assumption) (by kernel_rfl) fun s_ hs_ => ?_
  simp (maxSteps := 10000000) [SX.vc, SX.stop, SX.contS, SX.contB, SX.contW, SX.contR, SX.contD, SX.sxStep, SX.stepPure, SX.stepNew, SX.stepStore, SX.stepKeep, SX.guardIx, SX.evOp, SX.opd, SX.opds, SX.optOpd, SX.look, SX.putS, SX.gobs, SX.AllP, SX.leave, SX.lookC, SX.lookB, SX.lookT, SX.lookN, SX.findK, SX.evBuiltin, SX.ints, SX.foldI, SX.evBin, SX.evInt, SX.evStr, SX.evEq, SX.arith, SX.evLoad, SX.shapeUp, SX.evFieldAddr, SX.evField, SX.evIndexAddr, SX.evIndex, SX.evFill, SX.evBuild, SX.szs, SX.cellsV, SX.evNew, SX.evStore, SX.spliceL, SX.SV.cells, SX.evConv, SX.evSlice, SX.bnd, SX.evNil, SX.evUn, SX.evPick, SX.pickOpd, SX.popTo, SX.cnd, SX.env0, SX.TD.isAgg, SX.TD.isIface, SX.tails, SX.NotAgg, SX.evLookup, SX.evConvH, SX.evPtrEq, SX.isCells, SX.thaw, SX.frz, SX.fixB, SX.rootIx, SX.Froz, SX.frzStep, SX.fork, Go.Value.cells, Go.undef, cfg5, hlt6']
  refine ⟨by (unfold SX.Ob; first | trivial | omega | ((try simp only [SX.inK]); (try simp [SX.den, SX.IsU8, SX.AllP, *]); (try omega))), ?_⟩
  intro a19 w19 hr19' _
  have hr19 := hr18.unbase hr19'
  have hOA19 := hOA.keep hr19'.keeps (by simp [frameAt, mutB])
  have hOB19 := hOB.keep hr19'.keeps (by simp [frameAt, mutB])
  refine post_call 9 [.v (.slice ado no cpo)] hr19 (by first | exact wanted_none rfl | exact wanted_zero (hr19.env.same rfl rfl rfl rfl) rfl (by simp) | exact wanted_zero (hr19.env.same rfl rfl rfl rfl) rfl (by simp [*])) rfl (callable 9 Try.func9) (judgeL_ok w19 _ _ hOA19.rd (by omega)) ?_
  rintro e20 w20 ⟨k3, rfl, hk3, hpre3, hb20⟩
  refine ⟨_, rfl, ?_⟩
  have h20 := hr19.ret hb20 85 (.tu [.v (.int .i64 k3), .v (.bool (jl noM (ofB x L)))]) rfl _ (hr19.all.below hb20) (by simp) rfl
  have hOB20 := hOB19.below hb20
  refine seg cfg5_ok mixed PanicFree.body 1000 [] [] h20.rebase (by first | trivial | exact HpRep.nil | assumption) (by kernel_rfl) fun s_ hs_ => ?_
  simp (maxSteps := 10000000) [SX.vc, SX.stop, SX.contS, SX.contB, SX.contW, SX.contR, SX.contD, SX.sxStep, SX.stepPure, SX.stepNew, SX.stepStore, SX.stepKeep, SX.guardIx, SX.evOp, SX.opd, SX.opds, SX.optOpd, SX.look, SX.putS, SX.gobs, SX.AllP, SX.leave, SX.lookC, SX.lookB, SX.lookT, SX.lookN, SX.findK, SX.evBuiltin, SX.ints, SX.foldI, SX.evBin, SX.evInt, SX.evStr, SX.evEq, SX.arith, SX.evLoad, SX.shapeUp, SX.evFieldAddr, SX.evField, SX.evIndexAddr, SX.evIndex, SX.evFill, SX.evBuild, SX.szs, SX.cellsV, SX.evNew, SX.evStore, SX.spliceL, SX.SV.cells, SX.evConv, SX.evSlice, SX.bnd, SX.evNil, SX.evUn, SX.evPick, SX.pickOpd, SX.popTo, SX.cnd, SX.env0, SX.TD.isAgg, SX.TD.isIface, SX.tails, SX.NotAgg, SX.evLookup, SX.evConvH, SX.evPtrEq, SX.isCells, SX.thaw, SX.frz, SX.fixB, SX.rootIx, SX.Froz, SX.frzStep, SX.fork, Go.Value.cells, Go.undef, cfg5]
  refine ⟨by (unfold SX.Ob; first | trivial | omega | ((try simp only [SX.inK]); (try simp [SX.den, SX.IsU8, SX.AllP, *]); (try omega))), ?_⟩
  intro a21 w21 hr21' _
  have hr21 := h20.unbase hr21'
  have hOB21 := hOB20.keep hr21'.keeps (by simp [frameAt, mutB])
  refine post_call 9 [.v (.slice adp np cpp)] hr21 (by first | exact wanted_none rfl | exact wanted_zero (hr21.env.same rfl rfl rfl rfl) rfl (by simp) | exact wanted_zero (hr21.env.same rfl rfl rfl rfl) rfl (by simp [*])) rfl (callable 9 Try.func9) (judgeL_ok w21 _ _ hOB21.rd (by omega)) ?_
  rintro e22 w22 ⟨k4, rfl, hk4, hpre4, hb22⟩
  refine ⟨_, rfl, ?_⟩
  have h22 := hr21.ret hb22 90 (.tu [.v (.int .i64 k4), .v (.bool (jl noM (notB x L)))]) rfl _ (hr21.all.below hb22) (by simp) rfl
  have hnx : (K.take (i + 1)).all (fun x => jl noM (ofB x L)) = ((K.take i).all (fun x => jl noM (ofB x L)) && jl noM (ofB x L)) := by
    rw [take_nth (d := (0 : Int)) (by omega), hx, List.all_append]
    simp
  obtain ⟨ev, hev⟩ : ∃ ev, (K.take i).all (fun x => jl noM (ofB x L)) = ev := ⟨_, rfl⟩
  rw [hev] at hnx
  have h22a := h22.top 10 (.v (.bool ev)) rfl (by rw [hev])
  cases hok : jl noM L with
  | true =>
    have h3 : jl noM (ofB x L) = true := jl_of L _ hok x
    have h4 : jl noM (notB x L) = true := jl_not L _ hok x
    have h22b := ((h22a.top 90 (.tu [.v (.int .i64 k4), .v (.bool true)]) rfl (by rw [h4])).top 18 (.v (.bool true)) rfl (by rw [h3])).top 7 (.v (.bool true)) rfl (by rw [hok])
    rw [h3] at hnx
    cases ev with
    | true =>
      refine seg cfg5_ok mixed PanicFree.body 1000 [false] [(94, true), (98, true), (101, false)] h22b (by first | trivial | exact HpRep.nil | assumption) (by kernel_rfl) fun s_ hs_ => ?_
      simp (maxSteps := 10000000) [SX.vc, SX.stop, SX.contS, SX.contB, SX.contW, SX.contR, SX.contD, SX.sxStep, SX.stepPure, SX.stepNew, SX.stepStore, SX.stepKeep, SX.guardIx, SX.evOp, SX.opd, SX.opds, SX.optOpd, SX.look, SX.putS, SX.gobs, SX.AllP, SX.leave, SX.lookC, SX.lookB, SX.lookT, SX.lookN, SX.findK, SX.evBuiltin, SX.ints, SX.foldI, SX.evBin, SX.evInt, SX.evStr, SX.evEq, SX.arith, SX.evLoad, SX.shapeUp, SX.evFieldAddr, SX.evField, SX.evIndexAddr, SX.evIndex, SX.evFill, SX.evBuild, SX.szs, SX.cellsV, SX.evNew, SX.evStore, SX.spliceL, SX.SV.cells, SX.evConv, SX.evSlice, SX.bnd, SX.evNil, SX.evUn, SX.evPick, SX.pickOpd, SX.popTo, SX.cnd, SX.env0, SX.TD.isAgg, SX.TD.isIface, SX.tails, SX.NotAgg, SX.evLookup, SX.evConvH, SX.evPtrEq, SX.isCells, SX.thaw, SX.frz, SX.fixB, SX.rootIx, SX.Froz, SX.frzStep, SX.fork, Go.Value.cells, Go.undef, cfg5]
      refine ⟨by (unfold SX.Ob; first | trivial | omega | ((try simp only [SX.inK]); (try simp [SX.den, SX.IsU8, SX.AllP, *]); (try omega))), ?_⟩
      intro a23 w23 hr23 _
      exact post_rnd _ (by omega) ⟨i + 1, rfl, by omega, hr23.re (by simp [envTo, SX.look, den, hnx, hok]) trivial rfl rfl⟩
    | false =>
      refine seg cfg5_ok mixed PanicFree.body 1000 [false] [(94, false), (98, true), (101, false)] h22b (by first | trivial | exact HpRep.nil | assumption) (by kernel_rfl) fun s_ hs_ => ?_
      simp (maxSteps := 10000000) [SX.vc, SX.stop, SX.contS, SX.contB, SX.contW, SX.contR, SX.contD, SX.sxStep, SX.stepPure, SX.stepNew, SX.stepStore, SX.stepKeep, SX.guardIx, SX.evOp, SX.opd, SX.opds, SX.optOpd, SX.look, SX.putS, SX.gobs, SX.AllP, SX.leave, SX.lookC, SX.lookB, SX.lookT, SX.lookN, SX.findK, SX.evBuiltin, SX.ints, SX.foldI, SX.evBin, SX.evInt, SX.evStr, SX.evEq, SX.arith, SX.evLoad, SX.shapeUp, SX.evFieldAddr, SX.evField, SX.evIndexAddr, SX.evIndex, SX.evFill, SX.evBuild, SX.szs, SX.cellsV, SX.evNew, SX.evStore, SX.spliceL, SX.SV.cells, SX.evConv, SX.evSlice, SX.bnd, SX.evNil, SX.evUn, SX.evPick, SX.pickOpd, SX.popTo, SX.cnd, SX.env0, SX.TD.isAgg, SX.TD.isIface, SX.tails, SX.NotAgg, SX.evLookup, SX.evConvH, SX.evPtrEq, SX.isCells, SX.thaw, SX.frz, SX.fixB, SX.rootIx, SX.Froz, SX.frzStep, SX.fork, Go.Value.cells, Go.undef, cfg5]
      refine ⟨by (unfold SX.Ob; first | trivial | omega | ((try simp only [SX.inK]); (try simp [SX.den, SX.IsU8, SX.AllP, *]); (try omega))), ?_⟩
      intro a23 w23 hr23 _
      exact post_rnd _ (by omega) ⟨i + 1, rfl, by omega, hr23.re (by simp [envTo, SX.look, den, hnx, hok]) trivial rfl rfl⟩
  | false =>
    have h22b := h22a.top 7 (.v (.bool false)) rfl (by rw [hok])
    cases ev with
    | true =>
      refine seg cfg5_ok mixed PanicFree.body 1000 [false] [(94, true), (98, false)] h22b (by first | trivial | exact HpRep.nil | assumption) (by kernel_rfl) fun s_ hs_ => ?_
      simp (maxSteps := 10000000) [SX.vc, SX.stop, SX.contS, SX.contB, SX.contW, SX.contR, SX.contD, SX.sxStep, SX.stepPure, SX.stepNew, SX.stepStore, SX.stepKeep, SX.guardIx, SX.evOp, SX.opd, SX.opds, SX.optOpd, SX.look, SX.putS, SX.gobs, SX.AllP, SX.leave, SX.lookC, SX.lookB, SX.lookT, SX.lookN, SX.findK, SX.evBuiltin, SX.ints, SX.foldI, SX.evBin, SX.evInt, SX.evStr, SX.evEq, SX.arith, SX.evLoad, SX.shapeUp, SX.evFieldAddr, SX.evField, SX.evIndexAddr, SX.evIndex, SX.evFill, SX.evBuild, SX.szs, SX.cellsV, SX.evNew, SX.evStore, SX.spliceL, SX.SV.cells, SX.evConv, SX.evSlice, SX.bnd, SX.evNil, SX.evUn, SX.evPick, SX.pickOpd, SX.popTo, SX.cnd, SX.env0, SX.TD.isAgg, SX.TD.isIface, SX.tails, SX.NotAgg, SX.evLookup, SX.evConvH, SX.evPtrEq, SX.isCells, SX.thaw, SX.frz, SX.fixB, SX.rootIx, SX.Froz, SX.frzStep, SX.fork, Go.Value.cells, Go.undef, cfg5]
      refine ⟨by (unfold SX.Ob; first | trivial | omega | ((try simp only [SX.inK]); (try simp [SX.den, SX.IsU8, SX.AllP, *]); (try omega))), ?_⟩
      intro a23 w23 hr23 _
      exact post_rnd _ (by omega) ⟨i + 1, rfl, by omega, hr23.re (by simp [envTo, SX.look, den, hnx, hok]) trivial rfl rfl⟩
    | false =>
      refine seg cfg5_ok mixed PanicFree.body 1000 [false] [(94, false), (98, false)] h22b (by first | trivial | exact HpRep.nil | assumption) (by kernel_rfl) fun s_ hs_ => ?_
      simp (maxSteps := 10000000) [SX.vc, SX.stop, SX.contS, SX.contB, SX.contW, SX.contR, SX.contD, SX.sxStep, SX.stepPure, SX.stepNew, SX.stepStore, SX.stepKeep, SX.guardIx, SX.evOp, SX.opd, SX.opds, SX.optOpd, SX.look, SX.putS, SX.gobs, SX.AllP, SX.leave, SX.lookC, SX.lookB, SX.lookT, SX.lookN, SX.findK, SX.evBuiltin, SX.ints, SX.foldI, SX.evBin, SX.evInt, SX.evStr, SX.evEq, SX.arith, SX.evLoad, SX.shapeUp, SX.evFieldAddr, SX.evField, SX.evIndexAddr, SX.evIndex, SX.evFill, SX.evBuild, SX.szs, SX.cellsV, SX.evNew, SX.evStore, SX.spliceL, SX.SV.cells, SX.evConv, SX.evSlice, SX.bnd, SX.evNil, SX.evUn, SX.evPick, SX.pickOpd, SX.popTo, SX.cnd, SX.env0, SX.TD.isAgg, SX.TD.isIface, SX.tails, SX.NotAgg, SX.evLookup, SX.evConvH, SX.evPtrEq, SX.isCells, SX.thaw, SX.frz, SX.fixB, SX.rootIx, SX.Froz, SX.frzStep, SX.fork, Go.Value.cells, Go.undef, cfg5]
      refine ⟨by (unfold SX.Ob; first | trivial | omega | ((try simp only [SX.inK]); (try simp [SX.den, SX.IsU8, SX.AllP, *]); (try omega))), ?_⟩
      intro a23 w23 hr23 _
      exact post_rnd _ (by omega) ⟨i + 1, rfl, by omega, hr23.re (by simp [envTo, SX.look, den, hnx, hok]) trivial rfl rfl⟩
end Go.Proofs
