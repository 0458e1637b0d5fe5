/- Histories: HistoryOrders walked. -/
import Derived.Test.YtajppkjbmiemhaaOU
namespace Go.Proofs
set_option linter.unusedVariables false
set_option linter.unusedSimpArgs false
set_option linter.unusedSectionVars false
open Go Go.SX Go.RowKit Go.Hist

/-- How often, less how often. -/
def mF (A B : List HEv) (x : HEv) : Option Value := if x ∈ A then some (.int .i64 ((A.count x : Int) - (B.count x : Int))) else none
theorem mF_get {A B : List HEv} {x : HEv} (hB : B.count x ≤ A.count x) : (mF A B x).getD (.int .i64 0) = .int .i64 ((A.count x : Int) - (B.count x : Int)) := by
  unfold mF
  by_cases h : x ∈ A
  · rw [if_pos h]; rfl
  · rw [if_neg h]
    have h0 : A.count x = 0 := List.count_eq_zero.2 h
    rw [show B.count x = 0 by omega, h0]
    rfl
theorem count_take {L : List HEv} {k : Nat} {x : HEv} (h : k < L.length) (hx : nth zeroEv L k = x) (y : HEv) : (L.take (k + 1)).count y = (L.take k).count y + (if y = x then 1 else 0) := by
  rw [take_nth (d := zeroEv) h, hx, List.count_append]
  congr 1
  by_cases hy : y = x
  · subst hy; simp
  · rw [if_neg hy, List.count_eq_zero]
    simpa using hy
theorem mF_up {L : List HEv} {k : Nat} {x : HEv} (h : k < L.length) (hx : nth zeroEv L k = x) : updK (mF (L.take k) []) x (.int .i64 (((L.take k).count x : Int) - (([] : List HEv).count x : Int) + 1)) = mF (L.take (k + 1)) [] := by
  funext y
  unfold updK mF
  have hm : y ∈ L.take (k + 1) ↔ y ∈ L.take k ∨ y = x := by rw [take_nth (d := zeroEv) h, hx]; simp
  have hc := count_take h hx y
  by_cases hy : y = x
  · subst hy
    rw [if_pos rfl, if_pos (hm.2 (.inr rfl)), hc, if_pos rfl]
    simp
  · rw [if_neg hy, hc, if_neg hy]
    by_cases h2 : y ∈ L.take k
    · rw [if_pos h2, if_pos (hm.2 (.inl h2))]; simp
    · rw [if_neg h2, if_neg (fun h3 => (hm.1 h3).elim h2 hy)]
theorem mF_down {L X : List HEv} {k : Nat} {x : HEv} (h : k < X.length) (hx : nth zeroEv X k = x) (hxL : x ∈ L) : updK (mF L (X.take k)) x (.int .i64 ((L.count x : Int) - ((X.take k).count x : Int) - 1)) = mF L (X.take (k + 1)) := by
  funext y
  unfold updK mF
  have hc := count_take h hx y
  by_cases hy : y = x
  · subst hy
    rw [if_pos rfl, if_pos hxL, hc, if_pos rfl]
    congr 2
    omega
  · rw [if_neg hy, hc, if_neg hy]
    rfl

def OrL0 (F : Fr) (L : List HEv) (vl vx : Value) (bm : Nat) (m : Nat) (a : Act) (w' : World) : Prop :=
  ∃ (k : Nat) (es : Array MapEntry) (clk : Nat), m = L.length - k ∧ k ≤ L.length ∧ KM kvE InEv es clk (mF (L.take k) []) ∧ RepX F ⟨[(38, 0, .v (.int .i64 k)), (37, 0, .v (.int .i64 L.length)), (36, 0, .v vl), (0, 0, .v vl), (4, 0, .v vx), (3, 0, .v (.bool true)), (5, 0, .mp 0 bm)], [(bm, true, .obj (.map es clk))], 0, 0, 130, [], [], []⟩ a w'
def OrL2 (F : Fr) (L X : List HEv) (nx : Nat) (vl vx : Value) (bm : Nat) (m : Nat) (a : Act) (w' : World) : Prop :=
  ∃ (k : Nat) (es : Array MapEntry) (clk : Nat), m = nx - k ∧ k ≤ nx ∧ KM kvE InEv es clk (mF L (X.take k)) ∧ RepX F ⟨[(51, 0, .v (.int .i64 k)), (50, 0, .v (.int .i64 nx)), (49, 0, .v vx), (0, 0, .v vl), (4, 0, .v vx), (3, 0, .v (.bool true)), (5, 0, .mp 0 bm)], [(bm, true, .obj (.map es clk))], 0, 0, 130, [], [], []⟩ a w'

theorem filter_takeH {p : HEv → Bool} {L : List HEv} {k : Nat} {x : HEv} (h : k < L.length) (hx : nth zeroEv L k = x) : (L.take (k + 1)).filter p = (L.take k).filter p ++ (if p x then [x] else []) := by
  rw [take_nth (d := zeroEv) h, hx, List.filter_append]
  cases hp : p x <;> simp [hp]
def atE (x y : HEv) : Bool := decide (HEv.at_ y = x.at_)
def OrL4 (F : Fr) (L : List HEv) (vl vx : Value) (m : Nat) (a : Act) (w' : World) : Prop :=
  ∃ k2 : Nat, m = L.length - k2 ∧ k2 ≤ L.length ∧ RepX F ⟨[(84, 0, .v (.int .i64 k2)), (83, 0, .v (.int .i64 L.length)), (82, 0, .v vl), (0, 0, .v vl), (4, 0, .v vx), (3, 0, .v (.bool true))], [], 0, 0, 130, [], [], []⟩ a w'
def OrL6 (F : Fr) (L X : List HEv) (vl vx : Value) (k2 : Nat) (x : HEv) (cE : Nat) (m : Nat) (a : Act) (w' : World) : Prop :=
  ∃ (j : Nat) (vo vp : Value) (PA PB : Nat → Prop), m = L.length - j ∧ j ≤ L.length ∧ OwH PA w' vo ((L.take j).filter (atE x)) ∧ OwH PB w' vp ((X.take j).filter (atE x)) ∧ (∀ y, PA y → ¬ PB y) ∧ (∀ y, PA y → F.B ≤ y ∧ y < w'.heap.size ∧ y ≠ cE) ∧ (∀ y, PB y → F.B ≤ y ∧ y < w'.heap.size ∧ y ≠ cE) ∧ RepX F ⟨[(90, 0, .v (.int .i64 j)), (89, 0, .v (.int .i64 L.length)), (12, 0, .v vo), (13, 0, .v vp), (11, 0, .ptr 0 cE 0), (84, 0, .v (.int .i64 k2)), (83, 0, .v (.int .i64 L.length)), (82, 0, .v vl), (0, 0, .v vl), (4, 0, .v vx), (3, 0, .v (.bool true))], [(cE, true, .cells [.v (.int .i64 x.at_), .v (.int .i64 x.lba), .v (.bool x.rd), .v (.int .i64 x.ver), .v (.int .u8 x.by_)] 28)], 0, 0, 130, [], [], []⟩ a w'
def OrJ6 (F : Fr) (L X : List HEv) (vl vx : Value) (k2 : Nat) (x : HEv) (cE j : Nat) (a : Act) (w' : World) : Prop :=
  ∃ (vo vp : Value) (PA PB : Nat → Prop), OwH PA w' vo ((L.take (j + 1)).filter (atE x)) ∧ OwH PB w' vp ((X.take j).filter (atE x)) ∧ (∀ y, PA y → ¬ PB y) ∧ (∀ y, PA y → F.B ≤ y ∧ y < w'.heap.size ∧ y ≠ cE) ∧ (∀ y, PB y → F.B ≤ y ∧ y < w'.heap.size ∧ y ≠ cE) ∧ RepX F ⟨[(14, 0, .v (.int .i64 j)), (90, 0, .v (.int .i64 j)), (89, 0, .v (.int .i64 L.length)), (12, 0, .v vo), (13, 0, .v vp), (11, 0, .ptr 0 cE 0), (84, 0, .v (.int .i64 k2)), (83, 0, .v (.int .i64 L.length)), (82, 0, .v vl), (0, 0, .v vl), (4, 0, .v vx), (3, 0, .v (.bool true))], [(cE, true, .cells [.v (.int .i64 x.at_), .v (.int .i64 x.lba), .v (.bool x.rd), .v (.int .i64 x.ver), .v (.int .u8 x.by_)] 28)], 0, 0, 130, [], [], []⟩ a w'

set_option maxRecDepth 100000 in
set_option maxHeartbeats 64000000 in
/-- HistoryOrders. -/
theorem orders_ok (w : World) (v : Value) (L : List HEv) (hL : RdH (fun x => x < w.heap.size) w v L) (hn : L.length ≤ 1000000000000000) (hI : ∀ x ∈ L, InEv x) : Calls Try.prog 4 (denL [.v v]).toArray w (fun ev w' => ev = .returned (.bool true) ∧ Below w.heap.size w w') := by
  obtain ⟨ad, cp, rfl⟩ := hL.slice
  refine enter (F := frame0 w) Try.func4 rfl [.v (.slice ad L.length cp)] [] (by simp [Try.f4]) trivial (keeps0 w) fun a hr => ?_
  refine seg cfg4_ok mixed PanicFree.body 1000 [] [] hr (by first | trivial | exact HpRep.nil | assumption) (by kernel_rfl) fun s_ hs_ => ?_
  simp (maxSteps := 10000000) [SX.vc, SX.stop, SX.contS, SX.contB, SX.contW, SX.contR, SX.contD, SX.sxStep, SX.stepPure, SX.stepNew, SX.stepStore, SX.stepKeep, SX.guardIx, SX.evOp, SX.opd, SX.opds, SX.optOpd, SX.look, SX.putS, SX.gobs, SX.AllP, SX.leave, SX.lookC, SX.lookB, SX.lookT, SX.lookN, SX.findK, SX.evBuiltin, SX.ints, SX.foldI, SX.evBin, SX.evInt, SX.evStr, SX.evEq, SX.arith, SX.evLoad, SX.shapeUp, SX.evFieldAddr, SX.evField, SX.evIndexAddr, SX.evIndex, SX.evFill, SX.evBuild, SX.szs, SX.cellsV, SX.evNew, SX.evStore, SX.spliceL, SX.SV.cells, SX.evConv, SX.evSlice, SX.bnd, SX.evNil, SX.evUn, SX.evPick, SX.pickOpd, SX.popTo, SX.cnd, SX.env0, SX.TD.isAgg, SX.TD.isIface, SX.tails, SX.NotAgg, SX.evLookup, SX.evConvH, SX.evPtrEq, SX.isCells, SX.thaw, SX.frz, SX.fixB, SX.rootIx, SX.Froz, SX.frzStep, SX.fork, Go.Value.cells, Go.undef, cfg4, Try.f4]
  refine ⟨by (unfold SX.Ob; first | trivial | omega | ((try simp only [SX.inK]); (try simp [SX.den, SX.IsU8, SX.AllP, *]); (try omega))), ?_⟩
  intro a1 w1 hr1 _
  refine post_call 7 [] hr1 (by first | exact wanted_none rfl | exact wanted_zero (hr1.env.same rfl rfl rfl rfl) rfl (by simp) | exact wanted_zero (hr1.env.same rfl rfl rfl rfl) rfl (by simp [*])) rfl (callable 7 Try.func7) (live_ok w1) ?_
  rintro e2 w2 ⟨rfl, hb2⟩
  refine ⟨_, rfl, ?_⟩
  have h2 := hr1.ret hb2 15 (.v (.bool true)) rfl _ (hr1.all.below hb2) (by simp) rfl
  refine seg cfg4_ok mixed PanicFree.body 1000 [] [] h2 (by first | trivial | exact HpRep.nil | assumption) (by kernel_rfl) fun sS hsS => ?_
  simp (maxSteps := 10000000) [SX.vc, SX.stop, SX.contS, SX.contB, SX.contW, SX.contR, SX.contD, SX.sxStep, SX.stepPure, SX.stepNew, SX.stepStore, SX.stepKeep, SX.guardIx, SX.evOp, SX.opd, SX.opds, SX.optOpd, SX.look, SX.putS, SX.gobs, SX.AllP, SX.leave, SX.lookC, SX.lookB, SX.lookT, SX.lookN, SX.findK, SX.evBuiltin, SX.ints, SX.foldI, SX.evBin, SX.evInt, SX.evStr, SX.evEq, SX.arith, SX.evLoad, SX.shapeUp, SX.evFieldAddr, SX.evField, SX.evIndexAddr, SX.evIndex, SX.evFill, SX.evBuild, SX.szs, SX.cellsV, SX.evNew, SX.evStore, SX.spliceL, SX.SV.cells, SX.evConv, SX.evSlice, SX.bnd, SX.evNil, SX.evUn, SX.evPick, SX.pickOpd, SX.popTo, SX.cnd, SX.env0, SX.TD.isAgg, SX.TD.isIface, SX.tails, SX.NotAgg, SX.evLookup, SX.evConvH, SX.evPtrEq, SX.isCells, SX.thaw, SX.frz, SX.fixB, SX.rootIx, SX.Froz, SX.frzStep, SX.fork, Go.Value.cells, Go.undef, cfg4]
  refine ⟨by (unfold SX.Ob; first | trivial | omega | ((try simp only [SX.inK]); (try simp [SX.den, SX.IsU8, SX.AllP, *]); (try omega))), ?_⟩
  intro a3 w3 hr3 _
  refine post_call 8 [.sl 0 sS 0 0 1 1 1] hr3 (by first | exact wanted_none rfl | exact wanted_zero (hr3.env.same rfl rfl rfl rfl) rfl (by simp) | exact wanted_zero (hr3.env.same rfl rfl rfl rfl) rfl (by simp [*])) rfl (callable 8 Try.func8) (few1_ok w3 0 sS 1 _ ad L.length cp _ hr3.all.1.1 (by simp [denL, den]) (by omega)) ?_
  rintro e4 w4 ⟨rfl, hb4⟩
  refine ⟨_, rfl, ?_⟩
  have h4 := hr3.ret hb4 18 (.v (.bool (decide (L.length ≤ 399)))) rfl _ (hr3.all.below hb4) (by simp) rfl
  by_cases hF : L.length ≤ 399
  rotate_left
  · refine seg cfg4_ok mixed PanicFree.body 1000 [true] [] h4 (by first | trivial | exact HpRep.nil | assumption) (by kernel_rfl) fun s_ hs_ => ?_
    simp (maxSteps := 10000000) [SX.vc, SX.stop, SX.contS, SX.contB, SX.contW, SX.contR, SX.contD, SX.sxStep, SX.stepPure, SX.stepNew, SX.stepStore, SX.stepKeep, SX.guardIx, SX.evOp, SX.opd, SX.opds, SX.optOpd, SX.look, SX.putS, SX.gobs, SX.AllP, SX.leave, SX.lookC, SX.lookB, SX.lookT, SX.lookN, SX.findK, SX.evBuiltin, SX.ints, SX.foldI, SX.evBin, SX.evInt, SX.evStr, SX.evEq, SX.arith, SX.evLoad, SX.shapeUp, SX.evFieldAddr, SX.evField, SX.evIndexAddr, SX.evIndex, SX.evFill, SX.evBuild, SX.szs, SX.cellsV, SX.evNew, SX.evStore, SX.spliceL, SX.SV.cells, SX.evConv, SX.evSlice, SX.bnd, SX.evNil, SX.evUn, SX.evPick, SX.pickOpd, SX.popTo, SX.cnd, SX.env0, SX.TD.isAgg, SX.TD.isIface, SX.tails, SX.NotAgg, SX.evLookup, SX.evConvH, SX.evPtrEq, SX.isCells, SX.thaw, SX.frz, SX.fixB, SX.rootIx, SX.Froz, SX.frzStep, SX.fork, Go.Value.cells, Go.undef, cfg4, hF]
    refine ⟨by (unfold SX.Ob; first | trivial | omega | ((try simp only [SX.inK]); (try simp [SX.den, SX.IsU8, SX.AllP, *]); (try omega))), ?_⟩
    intro a5 w5 hr5 _
    exact post_retn (end1 hr5 rfl rfl ⟨rfl, hr5.keeps.toBelow⟩).1
  refine seg cfg4_ok mixed PanicFree.body 1000 [false] [] h4 (by first | trivial | exact HpRep.nil | assumption) (by kernel_rfl) fun s_ hs_ => ?_
  simp (maxSteps := 10000000) [SX.vc, SX.stop, SX.contS, SX.contB, SX.contW, SX.contR, SX.contD, SX.sxStep, SX.stepPure, SX.stepNew, SX.stepStore, SX.stepKeep, SX.guardIx, SX.evOp, SX.opd, SX.opds, SX.optOpd, SX.look, SX.putS, SX.gobs, SX.AllP, SX.leave, SX.lookC, SX.lookB, SX.lookT, SX.lookN, SX.findK, SX.evBuiltin, SX.ints, SX.foldI, SX.evBin, SX.evInt, SX.evStr, SX.evEq, SX.arith, SX.evLoad, SX.shapeUp, SX.evFieldAddr, SX.evField, SX.evIndexAddr, SX.evIndex, SX.evFill, SX.evBuild, SX.szs, SX.cellsV, SX.evNew, SX.evStore, SX.spliceL, SX.SV.cells, SX.evConv, SX.evSlice, SX.bnd, SX.evNil, SX.evUn, SX.evPick, SX.pickOpd, SX.popTo, SX.cnd, SX.env0, SX.TD.isAgg, SX.TD.isIface, SX.tails, SX.NotAgg, SX.evLookup, SX.evConvH, SX.evPtrEq, SX.isCells, SX.thaw, SX.frz, SX.fixB, SX.rootIx, SX.Froz, SX.frzStep, SX.fork, Go.Value.cells, Go.undef, cfg4, hF]
  refine ⟨by (unfold SX.Ob; first | trivial | omega | ((try simp only [SX.inK]); (try simp [SX.den, SX.IsU8, SX.AllP, *]); (try omega))), ?_⟩
  intro a5 w5 hr5a _
  have hr5 := hr5a.see [] trivial
  have z5 : w.heap.size ≤ w5.heap.size := hr5.keeps.size
  refine post_call 10 [.v (.slice ad L.length cp)] hr5 (by first | exact wanted_none rfl | exact wanted_zero (hr5.env.same rfl rfl rfl rfl) rfl (by simp) | exact wanted_zero (hr5.env.same rfl rfl rfl rfl) rfl (by simp [*])) rfl (callable 10 Try.func10) (Order_ok w5 _ L (hL.below hr5.keeps.toBelow) (by omega)) ?_
  rintro e6 w6 ⟨vx, X, rfl, hX6, hStX, hb6⟩
  refine ⟨_, rfl, ?_⟩
  have h6 := hr5.ret hb6 22 (.v vx) rfl _ (hr5.all.below hb6) (by simp) rfl
  have hXl : X.length = L.length := hStX.1
  obtain ⟨adx, nx, cpx, rfl, hnx⟩ : ∃ ad n cp, vx = Value.slice ad n cp ∧ n = X.length := by
    obtain ⟨x1, x2, h1⟩ := hX6.slice
    exact ⟨_, _, _, h1, rfl⟩
  have hne : ((nx : Int) != (L.length : Int)) = false := by rw [hnx, hXl]; simp
  refine seg cfg4_ok mixed PanicFree.body 1000 [] [(28, false)] h6.rebase (by first | trivial | exact HpRep.nil | assumption) (by kernel_rfl) fun s_ hs_ => ?_
  simp (maxSteps := 10000000) [SX.vc, SX.stop, SX.contS, SX.contB, SX.contW, SX.contR, SX.contD, SX.sxStep, SX.stepPure, SX.stepNew, SX.stepStore, SX.stepKeep, SX.guardIx, SX.evOp, SX.opd, SX.opds, SX.optOpd, SX.look, SX.putS, SX.gobs, SX.AllP, SX.leave, SX.lookC, SX.lookB, SX.lookT, SX.lookN, SX.findK, SX.evBuiltin, SX.ints, SX.foldI, SX.evBin, SX.evInt, SX.evStr, SX.evEq, SX.arith, SX.evLoad, SX.shapeUp, SX.evFieldAddr, SX.evField, SX.evIndexAddr, SX.evIndex, SX.evFill, SX.evBuild, SX.szs, SX.cellsV, SX.evNew, SX.evStore, SX.spliceL, SX.SV.cells, SX.evConv, SX.evSlice, SX.bnd, SX.evNil, SX.evUn, SX.evPick, SX.pickOpd, SX.popTo, SX.cnd, SX.env0, SX.TD.isAgg, SX.TD.isIface, SX.tails, SX.NotAgg, SX.evLookup, SX.evConvH, SX.evPtrEq, SX.isCells, SX.thaw, SX.frz, SX.fixB, SX.rootIx, SX.Froz, SX.frzStep, SX.fork, Go.Value.cells, Go.undef, cfg4, hne]
  refine ⟨by (unfold SX.Ob; first | trivial | omega | ((try simp only [SX.inK]); (try simp [SX.den, SX.IsU8, SX.AllP, *]); (try omega))), ?_⟩
  intro a7 w7 hr7' _
  have hr7 := h6.unbase hr7'
  have hX7 := hX6.keep hr7'.keeps (by simp [frameAt, mutB])
  refine post_call 10 [.v (.slice adx nx cpx)] hr7 (by first | exact wanted_none rfl | exact wanted_zero (hr7.env.same rfl rfl rfl rfl) rfl (by simp) | exact wanted_zero (hr7.env.same rfl rfl rfl rfl) rfl (by simp [*])) rfl (callable 10 Try.func10) (Order_ok w7 _ X hX7 (by omega)) ?_
  rintro e8 w8 ⟨vx2, X2, rfl, hX28, hStX2, hb8⟩
  refine ⟨_, rfl, ?_⟩
  have h8 := hr7.ret hb8 30 (.v vx2) rfl _ (hr7.all.below hb8) (by simp) rfl
  obtain rfl : X2 = X := hStX2.uniq ⟨rfl, fun _ => rfl, hStX.2.2⟩
  have hX8 := hX7.below hb8
  refine seg cfg4_ok mixed PanicFree.body 1000 [] [(28, false)] h8.rebase (by first | trivial | exact HpRep.nil | assumption) (by kernel_rfl) fun s_ hs_ => ?_
  simp (maxSteps := 10000000) [SX.vc, SX.stop, SX.contS, SX.contB, SX.contW, SX.contR, SX.contD, SX.sxStep, SX.stepPure, SX.stepNew, SX.stepStore, SX.stepKeep, SX.guardIx, SX.evOp, SX.opd, SX.opds, SX.optOpd, SX.look, SX.putS, SX.gobs, SX.AllP, SX.leave, SX.lookC, SX.lookB, SX.lookT, SX.lookN, SX.findK, SX.evBuiltin, SX.ints, SX.foldI, SX.evBin, SX.evInt, SX.evStr, SX.evEq, SX.arith, SX.evLoad, SX.shapeUp, SX.evFieldAddr, SX.evField, SX.evIndexAddr, SX.evIndex, SX.evFill, SX.evBuild, SX.szs, SX.cellsV, SX.evNew, SX.evStore, SX.spliceL, SX.SV.cells, SX.evConv, SX.evSlice, SX.bnd, SX.evNil, SX.evUn, SX.evPick, SX.pickOpd, SX.popTo, SX.cnd, SX.env0, SX.TD.isAgg, SX.TD.isIface, SX.tails, SX.NotAgg, SX.evLookup, SX.evConvH, SX.evPtrEq, SX.isCells, SX.thaw, SX.frz, SX.fixB, SX.rootIx, SX.Froz, SX.frzStep, SX.fork, Go.Value.cells, Go.undef, cfg4]
  refine ⟨by (unfold SX.Ob; first | trivial | omega | ((try simp only [SX.inK]); (try simp [SX.den, SX.IsU8, SX.AllP, *]); (try omega))), ?_⟩
  intro a9 w9 hr9' _
  have hr9 := h8.unbase hr9'
  have hX9 := hX8.keep hr9'.keeps (by simp [frameAt, mutB])
  have hX29 := hX28.keep hr9'.keeps (by simp [frameAt, mutB])
  refine post_call 11 [.v vx2, .v (.slice adx nx cpx)] hr9 (by first | exact wanted_none rfl | exact wanted_zero (hr9.env.same rfl rfl rfl rfl) rfl (by simp) | exact wanted_zero (hr9.env.same rfl rfl rfl rfl) rfl (by simp [*])) rfl (callable 11 Try.func11) (same_ok w9 _ _ X2 X2 hX29 hX9 (by omega)) ?_
  rintro e10 w10 ⟨rfl, hb10⟩
  refine ⟨_, rfl, ?_⟩
  have h10 := hr9.ret hb10 32 (.v (.bool (decide (X2 = X2)))) rfl _ (hr9.all.below hb10) (by simp) rfl
  have hX10 := (hX9.below hb10).mono (P' := fun x => w5.heap.size ≤ x ∧ x < w10.heap.size) fun x h1 h2 => ⟨h2, h1⟩
  refine seg cfg4_ok mixed PanicFree.body 1000 [false] [(28, false)] h10.rebase (by first | trivial | exact HpRep.nil | assumption) (by kernel_rfl) fun bm hbm => ?_
  simp (maxSteps := 10000000) [SX.vc, SX.stop, SX.contS, SX.contB, SX.contW, SX.contR, SX.contD, SX.sxStep, SX.stepPure, SX.stepNew, SX.stepStore, SX.stepKeep, SX.guardIx, SX.evOp, SX.opd, SX.opds, SX.optOpd, SX.look, SX.putS, SX.gobs, SX.AllP, SX.leave, SX.lookC, SX.lookB, SX.lookT, SX.lookN, SX.findK, SX.evBuiltin, SX.ints, SX.foldI, SX.evBin, SX.evInt, SX.evStr, SX.evEq, SX.arith, SX.evLoad, SX.shapeUp, SX.evFieldAddr, SX.evField, SX.evIndexAddr, SX.evIndex, SX.evFill, SX.evBuild, SX.szs, SX.cellsV, SX.evNew, SX.evStore, SX.spliceL, SX.SV.cells, SX.evConv, SX.evSlice, SX.bnd, SX.evNil, SX.evUn, SX.evPick, SX.pickOpd, SX.popTo, SX.cnd, SX.env0, SX.TD.isAgg, SX.TD.isIface, SX.tails, SX.NotAgg, SX.evLookup, SX.evConvH, SX.evPtrEq, SX.isCells, SX.thaw, SX.frz, SX.fixB, SX.rootIx, SX.Froz, SX.frzStep, SX.fork, Go.Value.cells, Go.undef, cfg4]
  refine ⟨by (unfold SX.Ob; first | trivial | omega | ((try simp only [SX.inK]); (try simp [SX.den, SX.IsU8, SX.AllP, *]); (try omega))), ?_⟩
  intro a11 w11 hr11' _
  have hr11 := h10.unbase hr11'
  have hX11 := hX10.keep hr11'.keeps (by simp [frameAt, mutB])
  have hL11 := hL.below hr11.keeps.toBelow
  have hA11 := hr11.all.1
  have z510 : w5.heap.size ≤ w10.heap.size := by
    have h1 := hb6.size
    have h2 := hr7'.keeps.size
    have h3 := hb8.size
    have h4 := hr9'.keeps.size
    have h5 := hb10.size
    have h6 : (frameAt w6 ([] : Hp)).w0.heap.size ≤ w7.heap.size := h2
    have h7 : (frameAt w8 ([] : Hp)).w0.heap.size ≤ w9.heap.size := h4
    simp only [frameAt] at h6 h7
    omega
  obtain ⟨es0, clk0, hb0, hm0⟩ := hA11.1
  have hKM0 : KM kvE InEv es0 clk0 (mF (L.take 0) []) := by
    obtain ⟨l, rfl, h1, h2, h3, h4⟩ := hm0
    have hl : l = [] := by
      rcases l with _ | ⟨⟨k, x, n⟩, l⟩
      · rfl
      · have := (h4 k x).2 ⟨n, List.mem_cons_self⟩
        simp at this
    subst hl
    exact ⟨[], rfl, by simp, by simp, by simp, by simp, fun k x => by simp [mF]⟩
  have hr12 := hr11.see [(bm, true, .obj (.map es0 clk0))] ⟨⟨hb0, hA11.2.1, by simp⟩, trivial⟩
  have hbm : w10.heap.size = bm := by assumption
  have hXn : X2.length ≤ 399 := by omega
  refine post_loop (OrL0 _ L (.slice ad L.length cp) (.slice adx nx cpx) bm) L.length ⟨0, es0, clk0, rfl, by omega, hKM0, hr12.rebase.re (by simp [envTo, SX.look]) ⟨⟨hb0, fun _ => .inr (by simp [frameAt, mutB]), by simp⟩, trivial⟩ rfl rfl⟩ ?_
  clear hr hr1 h2 hr3 h4 hr5a hr5 h6 hr7' hr7 h8 hr9' hr9 h10 hr11' hm0 hKM0
  rintro m a13 w13 ⟨k, es, clk, rfl, hk, hm, hr13⟩
  have hL13 := hL11.keep hr13.keeps (by simp [frameAt, mutB]; omega)
  by_cases hlt : k < L.length
  · obtain ⟨b, o0, cap, u, fz, hP, hv, hrep⟩ := hL13.opn hlt
    cases hv
    obtain ⟨x, hx⟩ : ∃ x, nth zeroEv L k = x := ⟨_, rfl⟩
    have hIx : InEv x := hI x (hx ▸ nth_mem hlt)
    have hA13 := hr13.all.1
    have hcl : (L.take k).count x ≤ 399 := Nat.le_trans List.count_le_length (by simp; omega)
    have hz0 : den (.v (.int .i64 (((L.take k).count x : Int) - (([] : List HEv).count x : Int)))) = (mF (L.take k) [] x).getD (.int .i64 0) := (mF_get (by simp)).symm
    have hz1 : den (.v (.int .i64 (((L.take k).count x : Int) - (([] : List HEv).count x : Int)))) = (updK (mF (L.take k) []) x ((mF (L.take k) [] x).getD (.int .i64 0)) x).getD (.int .i64 0) := by
      unfold updK
      rw [if_pos rfl]
      exact hz0
    have h14 := (hr13.top 36 (.sl 1 b o0 0 L.length cp 5) rfl (by simp [den])).see [(bm, true, .obj (.map es clk)), (b, false, .arr o0 L.length (fun j => evRow (nth zeroEv L j)) 5 u fz)] ⟨⟨hA13.1, hA13.2.1, by simp; omega⟩, HpAll.one hrep⟩
    have hup := mF_up hlt hx
    obtain ⟨c0, hc0⟩ : ∃ c0 : Int, ((L.take k).count x : Int) - (([] : List HEv).count x : Int) = c0 := ⟨_, rfl⟩
    have hcb : 0 ≤ c0 ∧ c0 ≤ 399 := by rw [← hc0]; simp; omega
    rw [hc0] at hz0 hz1 hup
    refine seg cfg4_ok mixed PanicFree.body 16 [true] [] h14 (by first | trivial | exact HpRep.nil | assumption) (by kernel_rfl) fun s7 hs7 => ?_
    simp (maxSteps := 10000000) [SX.vc, SX.stop, SX.contS, SX.contB, SX.contW, SX.contR, SX.contD, SX.sxStep, SX.stepPure, SX.stepNew, SX.stepStore, SX.stepKeep, SX.guardIx, SX.evOp, SX.opd, SX.opds, SX.optOpd, SX.look, SX.putS, SX.gobs, SX.AllP, SX.leave, SX.lookC, SX.lookB, SX.lookT, SX.lookN, SX.findK, SX.evBuiltin, SX.ints, SX.foldI, SX.evBin, SX.evInt, SX.evStr, SX.evEq, SX.arith, SX.evLoad, SX.shapeUp, SX.evFieldAddr, SX.evField, SX.evIndexAddr, SX.evIndex, SX.evFill, SX.evBuild, SX.szs, SX.cellsV, SX.evNew, SX.evStore, SX.spliceL, SX.SV.cells, SX.evConv, SX.evSlice, SX.bnd, SX.evNil, SX.evUn, SX.evPick, SX.pickOpd, SX.popTo, SX.cnd, SX.env0, SX.TD.isAgg, SX.TD.isIface, SX.tails, SX.NotAgg, SX.evLookup, SX.evConvH, SX.evPtrEq, SX.isCells, SX.thaw, SX.frz, SX.fixB, SX.rootIx, SX.Froz, SX.frzStep, SX.fork, Go.Value.cells, Go.undef, cfg4, evRow, hx]
    refine ⟨by (unfold SX.Ob; first | trivial | omega | ((try simp only [SX.inK]); (try simp [SX.den, SX.IsU8, SX.AllP, *]); (try omega))), ?_⟩
    intro a3 w3 hr3a _
    have hA3 := hr3a.all
    have hr3b := (hr3a.top 7 (.ptr 1 s7 0) rfl (by simp [den])).see [(bm, true, .obj (.map es clk)), (s7, true, .cells [.v (.int .i64 x.at_), .v (.int .i64 x.lba), .v (.bool x.rd), .v (.int .i64 x.ver), .v (.int .u8 x.by_)] 28)] ⟨⟨hA3.1.1, hA3.1.2.1, by have e := hA3.1.2.2; simp at e ⊢; omega⟩, ⟨hA3.2.2.1.1, hA3.2.2.1.2.1, by simp⟩, trivial⟩
    refine seg cfg4_ok mixed PanicFree.body 1000 [] [] hr3b (by first | trivial | exact HpRep.nil | assumption) (by kernel_rfl) fun s_ hs_ => ?_
    simp (maxSteps := 10000000) [SX.vc, SX.stop, SX.contS, SX.contB, SX.contW, SX.contR, SX.contD, SX.sxStep, SX.stepPure, SX.stepNew, SX.stepStore, SX.stepKeep, SX.guardIx, SX.evOp, SX.opd, SX.opds, SX.optOpd, SX.look, SX.putS, SX.gobs, SX.AllP, SX.leave, SX.lookC, SX.lookB, SX.lookT, SX.lookN, SX.findK, SX.evBuiltin, SX.ints, SX.foldI, SX.evBin, SX.evInt, SX.evStr, SX.evEq, SX.arith, SX.evLoad, SX.shapeUp, SX.evFieldAddr, SX.evField, SX.evIndexAddr, SX.evIndex, SX.evFill, SX.evBuild, SX.szs, SX.cellsV, SX.evNew, SX.evStore, SX.spliceL, SX.SV.cells, SX.evConv, SX.evSlice, SX.bnd, SX.evNil, SX.evUn, SX.evPick, SX.pickOpd, SX.popTo, SX.cnd, SX.env0, SX.TD.isAgg, SX.TD.isIface, SX.tails, SX.NotAgg, SX.evLookup, SX.evConvH, SX.evPtrEq, SX.isCells, SX.thaw, SX.frz, SX.fixB, SX.rootIx, SX.Froz, SX.frzStep, SX.fork, Go.Value.cells, Go.undef, cfg4]
    refine ⟨by (unfold SX.Ob; first | trivial | omega | ((try simp only [SX.inK]); (try simp [SX.den, SX.IsU8, SX.AllP, *]); (try omega))), ?_⟩
    intro a3 w3 hr3 ht3
    refine post_both ?_ ?_
    · refine post_lookK (kv := kvE) (G := InEv) (k := x) hr3 rfl rfl rfl (by simp) rfl rfl rfl rfl rfl evOK Try.underlying32 tok3 rfl hm hIx (z := .v (.int .i64 c0)) hz0 rfl (by first | exact frz_thaw _ | rfl | simp [frz]) fun aq hrq => ?_
      refine seg cfg4_ok mixed PanicFree.body 1000 [] [] hrq (by first | trivial | exact HpRep.nil | assumption) (by kernel_rfl) fun s_ hs_ => ?_
      simp (maxSteps := 10000000) [SX.vc, SX.stop, SX.contS, SX.contB, SX.contW, SX.contR, SX.contD, SX.sxStep, SX.stepPure, SX.stepNew, SX.stepStore, SX.stepKeep, SX.guardIx, SX.evOp, SX.opd, SX.opds, SX.optOpd, SX.look, SX.putS, SX.gobs, SX.AllP, SX.leave, SX.lookC, SX.lookB, SX.lookT, SX.lookN, SX.findK, SX.evBuiltin, SX.ints, SX.foldI, SX.evBin, SX.evInt, SX.evStr, SX.evEq, SX.arith, SX.evLoad, SX.shapeUp, SX.evFieldAddr, SX.evField, SX.evIndexAddr, SX.evIndex, SX.evFill, SX.evBuild, SX.szs, SX.cellsV, SX.evNew, SX.evStore, SX.spliceL, SX.SV.cells, SX.evConv, SX.evSlice, SX.bnd, SX.evNil, SX.evUn, SX.evPick, SX.pickOpd, SX.popTo, SX.cnd, SX.env0, SX.TD.isAgg, SX.TD.isIface, SX.tails, SX.NotAgg, SX.evLookup, SX.evConvH, SX.evPtrEq, SX.isCells, SX.thaw, SX.frz, SX.fixB, SX.rootIx, SX.Froz, SX.frzStep, SX.fork, Go.Value.cells, Go.undef, cfg4]
      refine ⟨by (unfold SX.Ob; first | trivial | omega | ((try simp only [SX.inK]); (try simp [SX.den, SX.IsU8, SX.AllP, *]); (try omega))), ?_⟩
      intro a4 w4 hr4 _
      refine post_entK (kv := kvE) (G := InEv) (k := x) hr4 rfl rfl rfl (by simp) rfl rfl rfl rfl rfl evOK Try.underlying32 tok3 rfl hm hIx (z := .v (.int .i64 c0)) hz0 rfl rfl fun a5 w5 es5 clk5 s5 hm5 hs5 hk5 hr5 => ?_
      refine seg cfg4_ok mixed PanicFree.body 1000 [] [] hr5 (by first | trivial | exact HpRep.nil | assumption) (by kernel_rfl) fun s_ hs_ => ?_
      simp (maxSteps := 10000000) [SX.vc, SX.stop, SX.contS, SX.contB, SX.contW, SX.contR, SX.contD, SX.sxStep, SX.stepPure, SX.stepNew, SX.stepStore, SX.stepKeep, SX.guardIx, SX.evOp, SX.opd, SX.opds, SX.optOpd, SX.look, SX.putS, SX.gobs, SX.AllP, SX.leave, SX.lookC, SX.lookB, SX.lookT, SX.lookN, SX.findK, SX.evBuiltin, SX.ints, SX.foldI, SX.evBin, SX.evInt, SX.evStr, SX.evEq, SX.arith, SX.evLoad, SX.shapeUp, SX.evFieldAddr, SX.evField, SX.evIndexAddr, SX.evIndex, SX.evFill, SX.evBuild, SX.szs, SX.cellsV, SX.evNew, SX.evStore, SX.spliceL, SX.SV.cells, SX.evConv, SX.evSlice, SX.bnd, SX.evNil, SX.evUn, SX.evPick, SX.pickOpd, SX.popTo, SX.cnd, SX.env0, SX.TD.isAgg, SX.TD.isIface, SX.tails, SX.NotAgg, SX.evLookup, SX.evConvH, SX.evPtrEq, SX.isCells, SX.thaw, SX.frz, SX.fixB, SX.rootIx, SX.Froz, SX.frzStep, SX.fork, Go.Value.cells, Go.undef, cfg4]
      refine ⟨by (unfold SX.Ob; first | trivial | omega | ((try simp only [SX.inK]); (try simp [SX.den, SX.IsU8, SX.AllP, *]); (try omega))), ?_⟩
      intro a6 w6 hr6 _
      refine post_entS (kv := kvE) (G := InEv) (M := fun v => updK (mF (L.take k) []) x v) hr6 rfl rfl rfl rfl rfl (s1 := s5) rfl rfl rfl hs5 rfl rfl fun a7 w7 es7 clk7 hm7 hk7 hr7 => ?_
      have hm7' : KM kvE InEv es7 clk7 (mF (L.take (k + 1)) []) := by
        have h := hm7
        simp only [den] at h
        rwa [hup] at h
      refine seg cfg4_ok mixed PanicFree.body 1000 [] [] hr7 (by first | trivial | exact HpRep.nil | assumption) (by kernel_rfl) fun s_ hs_ => ?_
      simp (maxSteps := 10000000) [SX.vc, SX.stop, SX.contS, SX.contB, SX.contW, SX.contR, SX.contD, SX.sxStep, SX.stepPure, SX.stepNew, SX.stepStore, SX.stepKeep, SX.guardIx, SX.evOp, SX.opd, SX.opds, SX.optOpd, SX.look, SX.putS, SX.gobs, SX.AllP, SX.leave, SX.lookC, SX.lookB, SX.lookT, SX.lookN, SX.findK, SX.evBuiltin, SX.ints, SX.foldI, SX.evBin, SX.evInt, SX.evStr, SX.evEq, SX.arith, SX.evLoad, SX.shapeUp, SX.evFieldAddr, SX.evField, SX.evIndexAddr, SX.evIndex, SX.evFill, SX.evBuild, SX.szs, SX.cellsV, SX.evNew, SX.evStore, SX.spliceL, SX.SV.cells, SX.evConv, SX.evSlice, SX.bnd, SX.evNil, SX.evUn, SX.evPick, SX.pickOpd, SX.popTo, SX.cnd, SX.env0, SX.TD.isAgg, SX.TD.isIface, SX.tails, SX.NotAgg, SX.evLookup, SX.evConvH, SX.evPtrEq, SX.isCells, SX.thaw, SX.frz, SX.fixB, SX.rootIx, SX.Froz, SX.frzStep, SX.fork, Go.Value.cells, Go.undef, cfg4]
      refine ⟨by (unfold SX.Ob; first | trivial | omega | ((try simp only [SX.inK]); (try simp [SX.den, SX.IsU8, SX.AllP, *]); (try omega))), ?_⟩
      intro a8 w8 hr8 _
      exact post_rnd (L.length - (k + 1)) (by omega) ⟨k + 1, es7, clk7, rfl, by omega, hm7', hr8.re (by simp [envTo, SX.look, den]) ⟨⟨hr8.all.1.1, hr8.all.1.2.1, by simp⟩, trivial⟩ rfl rfl⟩
    · refine post_entK (kv := kvE) (G := InEv) (k := x) hr3 rfl rfl rfl (by simp) rfl rfl rfl rfl rfl evOK Try.underlying32 tok3 rfl hm hIx (z := .v (.int .i64 c0)) hz0 rfl (by first | exact frz_thaw _ | rfl | simp [frz]) fun a5 w5 es5 clk5 s5 hm5 hs5 hk5 hr5 => ?_
      refine seg cfg4_ok mixed PanicFree.body 1000 [] [] hr5 (by first | trivial | exact HpRep.nil | assumption) (by kernel_rfl) fun s_ hs_ => ?_
      simp (maxSteps := 10000000) [SX.vc, SX.stop, SX.contS, SX.contB, SX.contW, SX.contR, SX.contD, SX.sxStep, SX.stepPure, SX.stepNew, SX.stepStore, SX.stepKeep, SX.guardIx, SX.evOp, SX.opd, SX.opds, SX.optOpd, SX.look, SX.putS, SX.gobs, SX.AllP, SX.leave, SX.lookC, SX.lookB, SX.lookT, SX.lookN, SX.findK, SX.evBuiltin, SX.ints, SX.foldI, SX.evBin, SX.evInt, SX.evStr, SX.evEq, SX.arith, SX.evLoad, SX.shapeUp, SX.evFieldAddr, SX.evField, SX.evIndexAddr, SX.evIndex, SX.evFill, SX.evBuild, SX.szs, SX.cellsV, SX.evNew, SX.evStore, SX.spliceL, SX.SV.cells, SX.evConv, SX.evSlice, SX.bnd, SX.evNil, SX.evUn, SX.evPick, SX.pickOpd, SX.popTo, SX.cnd, SX.env0, SX.TD.isAgg, SX.TD.isIface, SX.tails, SX.NotAgg, SX.evLookup, SX.evConvH, SX.evPtrEq, SX.isCells, SX.thaw, SX.frz, SX.fixB, SX.rootIx, SX.Froz, SX.frzStep, SX.fork, Go.Value.cells, Go.undef, cfg4]
      refine ⟨by (unfold SX.Ob; first | trivial | omega | ((try simp only [SX.inK]); (try simp [SX.den, SX.IsU8, SX.AllP, *]); (try omega))), ?_⟩
      intro a6 w6 hr6 _
      refine post_lookK (kv := kvE) (G := InEv) (k := x) hr6 rfl rfl rfl (by simp) rfl rfl rfl rfl rfl evOK Try.underlying32 tok3 rfl hm5 hIx (z := .v (.int .i64 c0)) hz1 rfl rfl fun aq hrq => ?_
      refine seg cfg4_ok mixed PanicFree.body 1000 [] [] hrq (by first | trivial | exact HpRep.nil | assumption) (by kernel_rfl) fun s_ hs_ => ?_
      simp (maxSteps := 10000000) [SX.vc, SX.stop, SX.contS, SX.contB, SX.contW, SX.contR, SX.contD, SX.sxStep, SX.stepPure, SX.stepNew, SX.stepStore, SX.stepKeep, SX.guardIx, SX.evOp, SX.opd, SX.opds, SX.optOpd, SX.look, SX.putS, SX.gobs, SX.AllP, SX.leave, SX.lookC, SX.lookB, SX.lookT, SX.lookN, SX.findK, SX.evBuiltin, SX.ints, SX.foldI, SX.evBin, SX.evInt, SX.evStr, SX.evEq, SX.arith, SX.evLoad, SX.shapeUp, SX.evFieldAddr, SX.evField, SX.evIndexAddr, SX.evIndex, SX.evFill, SX.evBuild, SX.szs, SX.cellsV, SX.evNew, SX.evStore, SX.spliceL, SX.SV.cells, SX.evConv, SX.evSlice, SX.bnd, SX.evNil, SX.evUn, SX.evPick, SX.pickOpd, SX.popTo, SX.cnd, SX.env0, SX.TD.isAgg, SX.TD.isIface, SX.tails, SX.NotAgg, SX.evLookup, SX.evConvH, SX.evPtrEq, SX.isCells, SX.thaw, SX.frz, SX.fixB, SX.rootIx, SX.Froz, SX.frzStep, SX.fork, Go.Value.cells, Go.undef, cfg4]
      refine ⟨by (unfold SX.Ob; first | trivial | omega | ((try simp only [SX.inK]); (try simp [SX.den, SX.IsU8, SX.AllP, *]); (try omega))), ?_⟩
      intro a4 w4 hr4 _
      refine post_entS (kv := kvE) (G := InEv) (M := fun v => updK (mF (L.take k) []) x v) hr4 rfl rfl rfl rfl rfl (s1 := s5) rfl rfl rfl hs5 rfl rfl fun a7 w7 es7 clk7 hm7 hk7 hr7 => ?_
      have hm7' : KM kvE InEv es7 clk7 (mF (L.take (k + 1)) []) := by
        have h := hm7
        simp only [den] at h
        rwa [hup] at h
      refine seg cfg4_ok mixed PanicFree.body 1000 [] [] hr7 (by first | trivial | exact HpRep.nil | assumption) (by kernel_rfl) fun s_ hs_ => ?_
      simp (maxSteps := 10000000) [SX.vc, SX.stop, SX.contS, SX.contB, SX.contW, SX.contR, SX.contD, SX.sxStep, SX.stepPure, SX.stepNew, SX.stepStore, SX.stepKeep, SX.guardIx, SX.evOp, SX.opd, SX.opds, SX.optOpd, SX.look, SX.putS, SX.gobs, SX.AllP, SX.leave, SX.lookC, SX.lookB, SX.lookT, SX.lookN, SX.findK, SX.evBuiltin, SX.ints, SX.foldI, SX.evBin, SX.evInt, SX.evStr, SX.evEq, SX.arith, SX.evLoad, SX.shapeUp, SX.evFieldAddr, SX.evField, SX.evIndexAddr, SX.evIndex, SX.evFill, SX.evBuild, SX.szs, SX.cellsV, SX.evNew, SX.evStore, SX.spliceL, SX.SV.cells, SX.evConv, SX.evSlice, SX.bnd, SX.evNil, SX.evUn, SX.evPick, SX.pickOpd, SX.popTo, SX.cnd, SX.env0, SX.TD.isAgg, SX.TD.isIface, SX.tails, SX.NotAgg, SX.evLookup, SX.evConvH, SX.evPtrEq, SX.isCells, SX.thaw, SX.frz, SX.fixB, SX.rootIx, SX.Froz, SX.frzStep, SX.fork, Go.Value.cells, Go.undef, cfg4]
      refine ⟨by (unfold SX.Ob; first | trivial | omega | ((try simp only [SX.inK]); (try simp [SX.den, SX.IsU8, SX.AllP, *]); (try omega))), ?_⟩
      intro a8 w8 hr8 _
      exact post_rnd (L.length - (k + 1)) (by omega) ⟨k + 1, es7, clk7, rfl, by omega, hm7', hr8.re (by simp [envTo, SX.look, den]) ⟨⟨hr8.all.1.1, hr8.all.1.2.1, by simp⟩, trivial⟩ rfl rfl⟩

  obtain rfl : k = L.length := by omega
  rw [List.take_length] at hm
  refine seg cfg4_ok mixed PanicFree.body 1000 [false] [] hr13 (by first | trivial | exact HpRep.nil | assumption) (by kernel_rfl) fun s_ hs_ => ?_
  simp (maxSteps := 10000000) [SX.vc, SX.stop, SX.contS, SX.contB, SX.contW, SX.contR, SX.contD, SX.sxStep, SX.stepPure, SX.stepNew, SX.stepStore, SX.stepKeep, SX.guardIx, SX.evOp, SX.opd, SX.opds, SX.optOpd, SX.look, SX.putS, SX.gobs, SX.AllP, SX.leave, SX.lookC, SX.lookB, SX.lookT, SX.lookN, SX.findK, SX.evBuiltin, SX.ints, SX.foldI, SX.evBin, SX.evInt, SX.evStr, SX.evEq, SX.arith, SX.evLoad, SX.shapeUp, SX.evFieldAddr, SX.evField, SX.evIndexAddr, SX.evIndex, SX.evFill, SX.evBuild, SX.szs, SX.cellsV, SX.evNew, SX.evStore, SX.spliceL, SX.SV.cells, SX.evConv, SX.evSlice, SX.bnd, SX.evNil, SX.evUn, SX.evPick, SX.pickOpd, SX.popTo, SX.cnd, SX.env0, SX.TD.isAgg, SX.TD.isIface, SX.tails, SX.NotAgg, SX.evLookup, SX.evConvH, SX.evPtrEq, SX.isCells, SX.thaw, SX.frz, SX.fixB, SX.rootIx, SX.Froz, SX.frzStep, SX.fork, Go.Value.cells, Go.undef, cfg4]
  refine ⟨by (unfold SX.Ob; first | trivial | omega | ((try simp only [SX.inK]); (try simp [SX.den, SX.IsU8, SX.AllP, *]); (try omega))), ?_⟩
  intro a14 w14 hr14 _
  refine post_loop (OrL2 _ L X2 nx (.slice ad L.length cp) (.slice adx nx cpx) bm) nx ⟨0, es, clk, rfl, by omega, by simpa using hm, hr14.re (by simp [envTo, SX.look]) ⟨⟨hr14.all.1.1, hr14.all.1.2.1, by simp⟩, trivial⟩ rfl rfl⟩ ?_
  clear hr13 hr14 hm hL13
  rintro m a13' w13' ⟨k, es', clk', rfl, hk, hm, hr13⟩
  have hX13 := hX11.keep hr13.keeps (by simp [frameAt, mutB]; omega)
  have z13 : w11.heap.size ≤ w13'.heap.size := hr13.keeps.size
  have hb11 : bm < w11.heap.size := lt_of_heap hb0
  have hcnt : ∀ y, X2.count y = L.count y := fun y => List.perm_iff_count.1 hStX.perm y
  by_cases hlt : k < nx
  · have hltX : k < X2.length := by omega
    obtain ⟨b, o0, cap, u, fz, hP, hv, hrep⟩ := hX13.opn hltX
    rw [← hnx] at hv
    cases hv
    obtain ⟨x, hx⟩ : ∃ x, nth zeroEv X2 k = x := ⟨_, rfl⟩
    have hxL : x ∈ L := hStX.mem.1 (hx ▸ nth_mem hltX)
    have hIx : InEv x := hI x hxL
    have hA13 := hr13.all.1
    have hct := count_take hltX hx x
    have hc2 : (X2.take (k + 1)).count x ≤ L.count x := by rw [← hcnt]; exact (List.take_sublist _ _).count_le x
    have hcl : L.count x ≤ 399 := Nat.le_trans List.count_le_length (by omega)
    rw [if_pos rfl] at hct
    have hz0 : den (.v (.int .i64 ((L.count x : Int) - ((X2.take k).count x : Int)))) = (mF L (X2.take k) x).getD (.int .i64 0) := (mF_get (by omega)).symm
    have hz1 : den (.v (.int .i64 ((L.count x : Int) - ((X2.take k).count x : Int)))) = (updK (mF L (X2.take k)) x ((mF L (X2.take k) x).getD (.int .i64 0)) x).getD (.int .i64 0) := by
      unfold updK
      rw [if_pos rfl]
      exact hz0
    have hz2 : den (.v (.int .i64 ((L.count x : Int) - ((X2.take (k + 1)).count x : Int)))) = (mF L (X2.take (k + 1)) x).getD (.int .i64 0) := (mF_get hc2).symm
    have hup := mF_down hltX hx hxL
    obtain ⟨c1, hc1e⟩ : ∃ c1 : Int, (L.count x : Int) - ((X2.take (k + 1)).count x : Int) = c1 := ⟨_, rfl⟩
    obtain ⟨c0, hc0⟩ : ∃ c0 : Int, (L.count x : Int) - ((X2.take k).count x : Int) = c0 := ⟨_, rfl⟩
    have hcb : 0 ≤ c0 ∧ c0 ≤ 399 := by omega
    have hc1 : ¬ c1 < 0 := by omega
    rw [hc0] at hz0 hz1 hup
    rw [hc1e] at hz2
    clear hc0 hc1e hct
    have h14 := (hr13.top 49 (.sl 1 b o0 0 nx cpx 5) rfl (by simp [den])).see [(bm, true, .obj (.map es' clk')), (b, false, .arr o0 X2.length (fun j => evRow (nth zeroEv X2 j)) 5 u fz)] ⟨⟨hA13.1, hA13.2.1, by simp; omega⟩, HpAll.one hrep⟩
    refine seg cfg4_ok mixed PanicFree.body 18 [true] [] h14 (by first | trivial | exact HpRep.nil | assumption) (by kernel_rfl) fun s7 hs7 => ?_
    simp (maxSteps := 10000000) [SX.vc, SX.stop, SX.contS, SX.contB, SX.contW, SX.contR, SX.contD, SX.sxStep, SX.stepPure, SX.stepNew, SX.stepStore, SX.stepKeep, SX.guardIx, SX.evOp, SX.opd, SX.opds, SX.optOpd, SX.look, SX.putS, SX.gobs, SX.AllP, SX.leave, SX.lookC, SX.lookB, SX.lookT, SX.lookN, SX.findK, SX.evBuiltin, SX.ints, SX.foldI, SX.evBin, SX.evInt, SX.evStr, SX.evEq, SX.arith, SX.evLoad, SX.shapeUp, SX.evFieldAddr, SX.evField, SX.evIndexAddr, SX.evIndex, SX.evFill, SX.evBuild, SX.szs, SX.cellsV, SX.evNew, SX.evStore, SX.spliceL, SX.SV.cells, SX.evConv, SX.evSlice, SX.bnd, SX.evNil, SX.evUn, SX.evPick, SX.pickOpd, SX.popTo, SX.cnd, SX.env0, SX.TD.isAgg, SX.TD.isIface, SX.tails, SX.NotAgg, SX.evLookup, SX.evConvH, SX.evPtrEq, SX.isCells, SX.thaw, SX.frz, SX.fixB, SX.rootIx, SX.Froz, SX.frzStep, SX.fork, Go.Value.cells, Go.undef, cfg4, evRow, hx, hltX]
    refine ⟨by (unfold SX.Ob; first | trivial | omega | ((try simp only [SX.inK]); (try simp [SX.den, SX.IsU8, SX.AllP, *]); (try omega))), ?_⟩
    intro a3 w3 hr3a _
    have hA3 := hr3a.all
    have hr3b := (hr3a.top 9 (.ptr 1 s7 0) rfl (by simp [den])).see [(bm, true, .obj (.map es' clk')), (s7, true, .cells [.v (.int .i64 x.at_), .v (.int .i64 x.lba), .v (.bool x.rd), .v (.int .i64 x.ver), .v (.int .u8 x.by_)] 28)] ⟨⟨hA3.1.1, hA3.1.2.1, by have e := hA3.1.2.2; simp at e ⊢; omega⟩, ⟨hA3.2.2.1.1, hA3.2.2.1.2.1, by simp⟩, trivial⟩
    refine seg cfg4_ok mixed PanicFree.body 1000 [] [] hr3b (by first | trivial | exact HpRep.nil | assumption) (by kernel_rfl) fun s_ hs_ => ?_
    simp (maxSteps := 10000000) [SX.vc, SX.stop, SX.contS, SX.contB, SX.contW, SX.contR, SX.contD, SX.sxStep, SX.stepPure, SX.stepNew, SX.stepStore, SX.stepKeep, SX.guardIx, SX.evOp, SX.opd, SX.opds, SX.optOpd, SX.look, SX.putS, SX.gobs, SX.AllP, SX.leave, SX.lookC, SX.lookB, SX.lookT, SX.lookN, SX.findK, SX.evBuiltin, SX.ints, SX.foldI, SX.evBin, SX.evInt, SX.evStr, SX.evEq, SX.arith, SX.evLoad, SX.shapeUp, SX.evFieldAddr, SX.evField, SX.evIndexAddr, SX.evIndex, SX.evFill, SX.evBuild, SX.szs, SX.cellsV, SX.evNew, SX.evStore, SX.spliceL, SX.SV.cells, SX.evConv, SX.evSlice, SX.bnd, SX.evNil, SX.evUn, SX.evPick, SX.pickOpd, SX.popTo, SX.cnd, SX.env0, SX.TD.isAgg, SX.TD.isIface, SX.tails, SX.NotAgg, SX.evLookup, SX.evConvH, SX.evPtrEq, SX.isCells, SX.thaw, SX.frz, SX.fixB, SX.rootIx, SX.Froz, SX.frzStep, SX.fork, Go.Value.cells, Go.undef, cfg4]
    refine ⟨by (unfold SX.Ob; first | trivial | omega | ((try simp only [SX.inK]); (try simp [SX.den, SX.IsU8, SX.AllP, *]); (try omega))), ?_⟩
    intro a3 w3 hr3 ht3
    refine post_both ?_ ?_
    · refine post_lookK (kv := kvE) (G := InEv) (k := x) hr3 rfl rfl rfl (by simp) rfl rfl rfl rfl rfl evOK Try.underlying32 tok3 rfl hm hIx (z := .v (.int .i64 c0)) hz0 rfl (by first | exact frz_thaw _ | rfl | simp [frz]) fun aq hrq => ?_
      refine seg cfg4_ok mixed PanicFree.body 1000 [] [] hrq (by first | trivial | exact HpRep.nil | assumption) (by kernel_rfl) fun s_ hs_ => ?_
      simp (maxSteps := 10000000) [SX.vc, SX.stop, SX.contS, SX.contB, SX.contW, SX.contR, SX.contD, SX.sxStep, SX.stepPure, SX.stepNew, SX.stepStore, SX.stepKeep, SX.guardIx, SX.evOp, SX.opd, SX.opds, SX.optOpd, SX.look, SX.putS, SX.gobs, SX.AllP, SX.leave, SX.lookC, SX.lookB, SX.lookT, SX.lookN, SX.findK, SX.evBuiltin, SX.ints, SX.foldI, SX.evBin, SX.evInt, SX.evStr, SX.evEq, SX.arith, SX.evLoad, SX.shapeUp, SX.evFieldAddr, SX.evField, SX.evIndexAddr, SX.evIndex, SX.evFill, SX.evBuild, SX.szs, SX.cellsV, SX.evNew, SX.evStore, SX.spliceL, SX.SV.cells, SX.evConv, SX.evSlice, SX.bnd, SX.evNil, SX.evUn, SX.evPick, SX.pickOpd, SX.popTo, SX.cnd, SX.env0, SX.TD.isAgg, SX.TD.isIface, SX.tails, SX.NotAgg, SX.evLookup, SX.evConvH, SX.evPtrEq, SX.isCells, SX.thaw, SX.frz, SX.fixB, SX.rootIx, SX.Froz, SX.frzStep, SX.fork, Go.Value.cells, Go.undef, cfg4]
      refine ⟨by (unfold SX.Ob; first | trivial | omega | ((try simp only [SX.inK]); (try simp [SX.den, SX.IsU8, SX.AllP, *]); (try omega))), ?_⟩
      intro a4 w4 hr4 _
      refine post_entK (kv := kvE) (G := InEv) (k := x) hr4 rfl rfl rfl (by simp) rfl rfl rfl rfl rfl evOK Try.underlying32 tok3 rfl hm hIx (z := .v (.int .i64 c0)) hz0 rfl rfl fun a5 w5 es5 clk5 s5 hm5 hs5 hk5 hr5 => ?_
      refine seg cfg4_ok mixed PanicFree.body 1000 [] [] hr5 (by first | trivial | exact HpRep.nil | assumption) (by kernel_rfl) fun s_ hs_ => ?_
      simp (maxSteps := 10000000) [SX.vc, SX.stop, SX.contS, SX.contB, SX.contW, SX.contR, SX.contD, SX.sxStep, SX.stepPure, SX.stepNew, SX.stepStore, SX.stepKeep, SX.guardIx, SX.evOp, SX.opd, SX.opds, SX.optOpd, SX.look, SX.putS, SX.gobs, SX.AllP, SX.leave, SX.lookC, SX.lookB, SX.lookT, SX.lookN, SX.findK, SX.evBuiltin, SX.ints, SX.foldI, SX.evBin, SX.evInt, SX.evStr, SX.evEq, SX.arith, SX.evLoad, SX.shapeUp, SX.evFieldAddr, SX.evField, SX.evIndexAddr, SX.evIndex, SX.evFill, SX.evBuild, SX.szs, SX.cellsV, SX.evNew, SX.evStore, SX.spliceL, SX.SV.cells, SX.evConv, SX.evSlice, SX.bnd, SX.evNil, SX.evUn, SX.evPick, SX.pickOpd, SX.popTo, SX.cnd, SX.env0, SX.TD.isAgg, SX.TD.isIface, SX.tails, SX.NotAgg, SX.evLookup, SX.evConvH, SX.evPtrEq, SX.isCells, SX.thaw, SX.frz, SX.fixB, SX.rootIx, SX.Froz, SX.frzStep, SX.fork, Go.Value.cells, Go.undef, cfg4]
      refine ⟨by (unfold SX.Ob; first | trivial | omega | ((try simp only [SX.inK]); (try simp [SX.den, SX.IsU8, SX.AllP, *]); (try omega))), ?_⟩
      intro a6 w6 hr6 _
      refine post_entS (kv := kvE) (G := InEv) (M := fun v => updK (mF L (X2.take k)) x v) hr6 rfl rfl rfl rfl rfl (s1 := s5) rfl rfl rfl hs5 rfl rfl fun a7 w7 es7 clk7 hm7 hk7 hr7 => ?_
      have hm7' : KM kvE InEv es7 clk7 (mF L (X2.take (k + 1))) := by
        have h := hm7
        simp only [den] at h
        rwa [hup] at h
      refine seg cfg4_ok mixed PanicFree.body 1 [] [] hr7 (by first | trivial | exact HpRep.nil | assumption) (by kernel_rfl) fun s_ hs_ => ?_
      simp (maxSteps := 10000000) [SX.vc, SX.stop, SX.contS, SX.contB, SX.contW, SX.contR, SX.contD, SX.sxStep, SX.stepPure, SX.stepNew, SX.stepStore, SX.stepKeep, SX.guardIx, SX.evOp, SX.opd, SX.opds, SX.optOpd, SX.look, SX.putS, SX.gobs, SX.AllP, SX.leave, SX.lookC, SX.lookB, SX.lookT, SX.lookN, SX.findK, SX.evBuiltin, SX.ints, SX.foldI, SX.evBin, SX.evInt, SX.evStr, SX.evEq, SX.arith, SX.evLoad, SX.shapeUp, SX.evFieldAddr, SX.evField, SX.evIndexAddr, SX.evIndex, SX.evFill, SX.evBuild, SX.szs, SX.cellsV, SX.evNew, SX.evStore, SX.spliceL, SX.SV.cells, SX.evConv, SX.evSlice, SX.bnd, SX.evNil, SX.evUn, SX.evPick, SX.pickOpd, SX.popTo, SX.cnd, SX.env0, SX.TD.isAgg, SX.TD.isIface, SX.tails, SX.NotAgg, SX.evLookup, SX.evConvH, SX.evPtrEq, SX.isCells, SX.thaw, SX.frz, SX.fixB, SX.rootIx, SX.Froz, SX.frzStep, SX.fork, Go.Value.cells, Go.undef, cfg4]
      refine ⟨by (unfold SX.Ob; first | trivial | omega | ((try simp only [SX.inK]); (try simp [SX.den, SX.IsU8, SX.AllP, *]); (try omega))), ?_⟩
      intro a8 w8 hr8 _
      have hA8 := hr8.all
      have hX8 := hX11.keep hr8.keeps (by simp [frameAt, mutB]; omega)
      obtain ⟨bx, ox, capx, ux, fzx, hPx, hvx, hrepx⟩ := hX8.opn (show k < X2.length by omega)
      rw [← hnx] at hvx
      cases hvx
      have hr9 := ((hr8.top 9 (.ptr 1 s7 0) rfl (by simp [den])).top 4 (.sl 2 b o0 0 nx cpx 5) rfl (by simp [den])).see [(bm, true, .obj (.map es7 clk7)), (s7, true, .cells [.v (.int .i64 x.at_), .v (.int .i64 x.lba), .v (.bool x.rd), .v (.int .i64 x.ver), .v (.int .u8 x.by_)] 28), (b, false, .arr o0 X2.length (fun j => evRow (nth zeroEv X2 j)) 5 ux fzx)] ⟨⟨hA8.1.1, hA8.1.2.1, by have e := hA8.1.2.2; simp at e ⊢; omega⟩, ⟨hA8.2.1.1, hA8.2.1.2.1, by simp; omega⟩, HpAll.one hrepx⟩
      refine seg cfg4_ok mixed PanicFree.body 1000 [] [] hr9 (by first | trivial | exact HpRep.nil | assumption) (by kernel_rfl) fun s_ hs_ => ?_
      simp (maxSteps := 10000000) [SX.vc, SX.stop, SX.contS, SX.contB, SX.contW, SX.contR, SX.contD, SX.sxStep, SX.stepPure, SX.stepNew, SX.stepStore, SX.stepKeep, SX.guardIx, SX.evOp, SX.opd, SX.opds, SX.optOpd, SX.look, SX.putS, SX.gobs, SX.AllP, SX.leave, SX.lookC, SX.lookB, SX.lookT, SX.lookN, SX.findK, SX.evBuiltin, SX.ints, SX.foldI, SX.evBin, SX.evInt, SX.evStr, SX.evEq, SX.arith, SX.evLoad, SX.shapeUp, SX.evFieldAddr, SX.evField, SX.evIndexAddr, SX.evIndex, SX.evFill, SX.evBuild, SX.szs, SX.cellsV, SX.evNew, SX.evStore, SX.spliceL, SX.SV.cells, SX.evConv, SX.evSlice, SX.bnd, SX.evNil, SX.evUn, SX.evPick, SX.pickOpd, SX.popTo, SX.cnd, SX.env0, SX.TD.isAgg, SX.TD.isIface, SX.tails, SX.NotAgg, SX.evLookup, SX.evConvH, SX.evPtrEq, SX.isCells, SX.thaw, SX.frz, SX.fixB, SX.rootIx, SX.Froz, SX.frzStep, SX.fork, Go.Value.cells, Go.undef, cfg4]
      refine ⟨by (unfold SX.Ob; first | trivial | omega | ((try simp only [SX.inK]); (try simp [SX.den, SX.IsU8, SX.AllP, *]); (try omega))), ?_⟩
      intro a10 w10' hr10 ht10
      refine post_lookK1 (kv := kvE) (G := InEv) (k := x) hr10 ht10 rfl rfl rfl (by simp) rfl rfl rfl rfl rfl evOK Try.underlying32 tok3 rfl hm7' hIx (z := .v (.int .i64 c1)) hz2 fun aq hrq => ?_
      have htq := ht10
      rcases k with _ | k
      · refine seg cfg4_ok mixed PanicFree.body 1000 [false] [(66, false), (69, false)] hrq (by first | trivial | exact HpRep.nil | assumption) (by kernel_rfl) fun s_ hs_ => ?_
        simp (maxSteps := 10000000) [SX.vc, SX.stop, SX.contS, SX.contB, SX.contW, SX.contR, SX.contD, SX.sxStep, SX.stepPure, SX.stepNew, SX.stepStore, SX.stepKeep, SX.guardIx, SX.evOp, SX.opd, SX.opds, SX.optOpd, SX.look, SX.putS, SX.gobs, SX.AllP, SX.leave, SX.lookC, SX.lookB, SX.lookT, SX.lookN, SX.findK, SX.evBuiltin, SX.ints, SX.foldI, SX.evBin, SX.evInt, SX.evStr, SX.evEq, SX.arith, SX.evLoad, SX.shapeUp, SX.evFieldAddr, SX.evField, SX.evIndexAddr, SX.evIndex, SX.evFill, SX.evBuild, SX.szs, SX.cellsV, SX.evNew, SX.evStore, SX.spliceL, SX.SV.cells, SX.evConv, SX.evSlice, SX.bnd, SX.evNil, SX.evUn, SX.evPick, SX.pickOpd, SX.popTo, SX.cnd, SX.env0, SX.TD.isAgg, SX.TD.isIface, SX.tails, SX.NotAgg, SX.evLookup, SX.evConvH, SX.evPtrEq, SX.isCells, SX.thaw, SX.frz, SX.fixB, SX.rootIx, SX.Froz, SX.frzStep, SX.fork, Go.Value.cells, Go.undef, cfg4, hc1]
        refine ⟨by (unfold SX.Ob; first | trivial | omega | ((try simp only [SX.inK]); (try simp [SX.den, SX.IsU8, SX.AllP, *]); (try omega))), ?_⟩
        intro a12 w12 hr12 _
        exact post_rnd (nx - (0 + 1)) (by omega) ⟨0 + 1, es7, clk7, rfl, by omega, hm7', hr12.re (by simp [envTo, SX.look, den]) ⟨⟨hr12.all.1.1, hr12.all.1.2.1, by simp⟩, trivial⟩ rfl rfl⟩
      · obtain ⟨y, hy⟩ : ∃ y, nth zeroEv X2 k = y := ⟨_, rfl⟩
        have hyx : ¬ x.at_ < y.at_ := by
          have h := List.pairwise_iff_getElem.1 hStX.2.2 k (k + 1) (by omega) (by omega) (by omega)
          rw [nth_lt (by omega)] at hy
          rw [nth_lt (by omega)] at hx
          rw [hy, hx] at h
          omega
        have hk1 : (0 : Int) < (k : Int) + 1 := by omega
        have hkn : k < nx := by omega
        have hkn2 : k < X2.length := by omega
        refine seg cfg4_ok mixed PanicFree.body 1000 [false] [(66, false), (69, true)] hrq (by first | trivial | exact HpRep.nil | assumption) (by kernel_rfl) fun s_ hs_ => ?_
        simp (maxSteps := 10000000) [SX.vc, SX.stop, SX.contS, SX.contB, SX.contW, SX.contR, SX.contD, SX.sxStep, SX.stepPure, SX.stepNew, SX.stepStore, SX.stepKeep, SX.guardIx, SX.evOp, SX.opd, SX.opds, SX.optOpd, SX.look, SX.putS, SX.gobs, SX.AllP, SX.leave, SX.lookC, SX.lookB, SX.lookT, SX.lookN, SX.findK, SX.evBuiltin, SX.ints, SX.foldI, SX.evBin, SX.evInt, SX.evStr, SX.evEq, SX.arith, SX.evLoad, SX.shapeUp, SX.evFieldAddr, SX.evField, SX.evIndexAddr, SX.evIndex, SX.evFill, SX.evBuild, SX.szs, SX.cellsV, SX.evNew, SX.evStore, SX.spliceL, SX.SV.cells, SX.evConv, SX.evSlice, SX.bnd, SX.evNil, SX.evUn, SX.evPick, SX.pickOpd, SX.popTo, SX.cnd, SX.env0, SX.TD.isAgg, SX.TD.isIface, SX.tails, SX.NotAgg, SX.evLookup, SX.evConvH, SX.evPtrEq, SX.isCells, SX.thaw, SX.frz, SX.fixB, SX.rootIx, SX.Froz, SX.frzStep, SX.fork, Go.Value.cells, Go.undef, cfg4, hc1, evRow, hy, hyx, hk1, hkn, hkn2]
        refine ⟨by (unfold SX.Ob; first | trivial | omega | ((try simp only [SX.inK]); (try simp [SX.den, SX.IsU8, SX.AllP, *]); (try omega))), ?_⟩
        intro a12 w12 hr12 _
        exact post_rnd (nx - (k + 1 + 1)) (by omega) ⟨k + 1 + 1, es7, clk7, rfl, by omega, hm7', hr12.re (by simp [envTo, SX.look, den]) ⟨⟨hr12.all.1.1, hr12.all.1.2.1, by simp⟩, trivial⟩ rfl rfl⟩
    · refine post_entK (kv := kvE) (G := InEv) (k := x) hr3 rfl rfl rfl (by simp) rfl rfl rfl rfl rfl evOK Try.underlying32 tok3 rfl hm hIx (z := .v (.int .i64 c0)) hz0 rfl (by first | exact frz_thaw _ | rfl | simp [frz]) fun a5 w5 es5 clk5 s5 hm5 hs5 hk5 hr5 => ?_
      refine seg cfg4_ok mixed PanicFree.body 1000 [] [] hr5 (by first | trivial | exact HpRep.nil | assumption) (by kernel_rfl) fun s_ hs_ => ?_
      simp (maxSteps := 10000000) [SX.vc, SX.stop, SX.contS, SX.contB, SX.contW, SX.contR, SX.contD, SX.sxStep, SX.stepPure, SX.stepNew, SX.stepStore, SX.stepKeep, SX.guardIx, SX.evOp, SX.opd, SX.opds, SX.optOpd, SX.look, SX.putS, SX.gobs, SX.AllP, SX.leave, SX.lookC, SX.lookB, SX.lookT, SX.lookN, SX.findK, SX.evBuiltin, SX.ints, SX.foldI, SX.evBin, SX.evInt, SX.evStr, SX.evEq, SX.arith, SX.evLoad, SX.shapeUp, SX.evFieldAddr, SX.evField, SX.evIndexAddr, SX.evIndex, SX.evFill, SX.evBuild, SX.szs, SX.cellsV, SX.evNew, SX.evStore, SX.spliceL, SX.SV.cells, SX.evConv, SX.evSlice, SX.bnd, SX.evNil, SX.evUn, SX.evPick, SX.pickOpd, SX.popTo, SX.cnd, SX.env0, SX.TD.isAgg, SX.TD.isIface, SX.tails, SX.NotAgg, SX.evLookup, SX.evConvH, SX.evPtrEq, SX.isCells, SX.thaw, SX.frz, SX.fixB, SX.rootIx, SX.Froz, SX.frzStep, SX.fork, Go.Value.cells, Go.undef, cfg4]
      refine ⟨by (unfold SX.Ob; first | trivial | omega | ((try simp only [SX.inK]); (try simp [SX.den, SX.IsU8, SX.AllP, *]); (try omega))), ?_⟩
      intro a6 w6 hr6 _
      refine post_lookK (kv := kvE) (G := InEv) (k := x) hr6 rfl rfl rfl (by simp) rfl rfl rfl rfl rfl evOK Try.underlying32 tok3 rfl hm5 hIx (z := .v (.int .i64 c0)) hz1 rfl rfl fun aq hrq => ?_
      refine seg cfg4_ok mixed PanicFree.body 1000 [] [] hrq (by first | trivial | exact HpRep.nil | assumption) (by kernel_rfl) fun s_ hs_ => ?_
      simp (maxSteps := 10000000) [SX.vc, SX.stop, SX.contS, SX.contB, SX.contW, SX.contR, SX.contD, SX.sxStep, SX.stepPure, SX.stepNew, SX.stepStore, SX.stepKeep, SX.guardIx, SX.evOp, SX.opd, SX.opds, SX.optOpd, SX.look, SX.putS, SX.gobs, SX.AllP, SX.leave, SX.lookC, SX.lookB, SX.lookT, SX.lookN, SX.findK, SX.evBuiltin, SX.ints, SX.foldI, SX.evBin, SX.evInt, SX.evStr, SX.evEq, SX.arith, SX.evLoad, SX.shapeUp, SX.evFieldAddr, SX.evField, SX.evIndexAddr, SX.evIndex, SX.evFill, SX.evBuild, SX.szs, SX.cellsV, SX.evNew, SX.evStore, SX.spliceL, SX.SV.cells, SX.evConv, SX.evSlice, SX.bnd, SX.evNil, SX.evUn, SX.evPick, SX.pickOpd, SX.popTo, SX.cnd, SX.env0, SX.TD.isAgg, SX.TD.isIface, SX.tails, SX.NotAgg, SX.evLookup, SX.evConvH, SX.evPtrEq, SX.isCells, SX.thaw, SX.frz, SX.fixB, SX.rootIx, SX.Froz, SX.frzStep, SX.fork, Go.Value.cells, Go.undef, cfg4]
      refine ⟨by (unfold SX.Ob; first | trivial | omega | ((try simp only [SX.inK]); (try simp [SX.den, SX.IsU8, SX.AllP, *]); (try omega))), ?_⟩
      intro a4 w4 hr4 _
      refine post_entS (kv := kvE) (G := InEv) (M := fun v => updK (mF L (X2.take k)) x v) hr4 rfl rfl rfl rfl rfl (s1 := s5) rfl rfl rfl hs5 rfl rfl fun a7 w7 es7 clk7 hm7 hk7 hr7 => ?_
      have hm7' : KM kvE InEv es7 clk7 (mF L (X2.take (k + 1))) := by
        have h := hm7
        simp only [den] at h
        rwa [hup] at h
      refine seg cfg4_ok mixed PanicFree.body 1 [] [] hr7 (by first | trivial | exact HpRep.nil | assumption) (by kernel_rfl) fun s_ hs_ => ?_
      simp (maxSteps := 10000000) [SX.vc, SX.stop, SX.contS, SX.contB, SX.contW, SX.contR, SX.contD, SX.sxStep, SX.stepPure, SX.stepNew, SX.stepStore, SX.stepKeep, SX.guardIx, SX.evOp, SX.opd, SX.opds, SX.optOpd, SX.look, SX.putS, SX.gobs, SX.AllP, SX.leave, SX.lookC, SX.lookB, SX.lookT, SX.lookN, SX.findK, SX.evBuiltin, SX.ints, SX.foldI, SX.evBin, SX.evInt, SX.evStr, SX.evEq, SX.arith, SX.evLoad, SX.shapeUp, SX.evFieldAddr, SX.evField, SX.evIndexAddr, SX.evIndex, SX.evFill, SX.evBuild, SX.szs, SX.cellsV, SX.evNew, SX.evStore, SX.spliceL, SX.SV.cells, SX.evConv, SX.evSlice, SX.bnd, SX.evNil, SX.evUn, SX.evPick, SX.pickOpd, SX.popTo, SX.cnd, SX.env0, SX.TD.isAgg, SX.TD.isIface, SX.tails, SX.NotAgg, SX.evLookup, SX.evConvH, SX.evPtrEq, SX.isCells, SX.thaw, SX.frz, SX.fixB, SX.rootIx, SX.Froz, SX.frzStep, SX.fork, Go.Value.cells, Go.undef, cfg4]
      refine ⟨by (unfold SX.Ob; first | trivial | omega | ((try simp only [SX.inK]); (try simp [SX.den, SX.IsU8, SX.AllP, *]); (try omega))), ?_⟩
      intro a8 w8 hr8 _
      have hA8 := hr8.all
      have hX8 := hX11.keep hr8.keeps (by simp [frameAt, mutB]; omega)
      obtain ⟨bx, ox, capx, ux, fzx, hPx, hvx, hrepx⟩ := hX8.opn (show k < X2.length by omega)
      rw [← hnx] at hvx
      cases hvx
      have hr9 := ((hr8.top 9 (.ptr 1 s7 0) rfl (by simp [den])).top 4 (.sl 2 b o0 0 nx cpx 5) rfl (by simp [den])).see [(bm, true, .obj (.map es7 clk7)), (s7, true, .cells [.v (.int .i64 x.at_), .v (.int .i64 x.lba), .v (.bool x.rd), .v (.int .i64 x.ver), .v (.int .u8 x.by_)] 28), (b, false, .arr o0 X2.length (fun j => evRow (nth zeroEv X2 j)) 5 ux fzx)] ⟨⟨hA8.1.1, hA8.1.2.1, by have e := hA8.1.2.2; simp at e ⊢; omega⟩, ⟨hA8.2.1.1, hA8.2.1.2.1, by simp; omega⟩, HpAll.one hrepx⟩
      refine seg cfg4_ok mixed PanicFree.body 1000 [] [] hr9 (by first | trivial | exact HpRep.nil | assumption) (by kernel_rfl) fun s_ hs_ => ?_
      simp (maxSteps := 10000000) [SX.vc, SX.stop, SX.contS, SX.contB, SX.contW, SX.contR, SX.contD, SX.sxStep, SX.stepPure, SX.stepNew, SX.stepStore, SX.stepKeep, SX.guardIx, SX.evOp, SX.opd, SX.opds, SX.optOpd, SX.look, SX.putS, SX.gobs, SX.AllP, SX.leave, SX.lookC, SX.lookB, SX.lookT, SX.lookN, SX.findK, SX.evBuiltin, SX.ints, SX.foldI, SX.evBin, SX.evInt, SX.evStr, SX.evEq, SX.arith, SX.evLoad, SX.shapeUp, SX.evFieldAddr, SX.evField, SX.evIndexAddr, SX.evIndex, SX.evFill, SX.evBuild, SX.szs, SX.cellsV, SX.evNew, SX.evStore, SX.spliceL, SX.SV.cells, SX.evConv, SX.evSlice, SX.bnd, SX.evNil, SX.evUn, SX.evPick, SX.pickOpd, SX.popTo, SX.cnd, SX.env0, SX.TD.isAgg, SX.TD.isIface, SX.tails, SX.NotAgg, SX.evLookup, SX.evConvH, SX.evPtrEq, SX.isCells, SX.thaw, SX.frz, SX.fixB, SX.rootIx, SX.Froz, SX.frzStep, SX.fork, Go.Value.cells, Go.undef, cfg4]
      refine ⟨by (unfold SX.Ob; first | trivial | omega | ((try simp only [SX.inK]); (try simp [SX.den, SX.IsU8, SX.AllP, *]); (try omega))), ?_⟩
      intro a10 w10' hr10 ht10
      refine post_lookK1 (kv := kvE) (G := InEv) (k := x) hr10 ht10 rfl rfl rfl (by simp) rfl rfl rfl rfl rfl evOK Try.underlying32 tok3 rfl hm7' hIx (z := .v (.int .i64 c1)) hz2 fun aq hrq => ?_
      have htq := ht10
      rcases k with _ | k
      · refine seg cfg4_ok mixed PanicFree.body 1000 [false] [(66, false), (69, false)] hrq (by first | trivial | exact HpRep.nil | assumption) (by kernel_rfl) fun s_ hs_ => ?_
        simp (maxSteps := 10000000) [SX.vc, SX.stop, SX.contS, SX.contB, SX.contW, SX.contR, SX.contD, SX.sxStep, SX.stepPure, SX.stepNew, SX.stepStore, SX.stepKeep, SX.guardIx, SX.evOp, SX.opd, SX.opds, SX.optOpd, SX.look, SX.putS, SX.gobs, SX.AllP, SX.leave, SX.lookC, SX.lookB, SX.lookT, SX.lookN, SX.findK, SX.evBuiltin, SX.ints, SX.foldI, SX.evBin, SX.evInt, SX.evStr, SX.evEq, SX.arith, SX.evLoad, SX.shapeUp, SX.evFieldAddr, SX.evField, SX.evIndexAddr, SX.evIndex, SX.evFill, SX.evBuild, SX.szs, SX.cellsV, SX.evNew, SX.evStore, SX.spliceL, SX.SV.cells, SX.evConv, SX.evSlice, SX.bnd, SX.evNil, SX.evUn, SX.evPick, SX.pickOpd, SX.popTo, SX.cnd, SX.env0, SX.TD.isAgg, SX.TD.isIface, SX.tails, SX.NotAgg, SX.evLookup, SX.evConvH, SX.evPtrEq, SX.isCells, SX.thaw, SX.frz, SX.fixB, SX.rootIx, SX.Froz, SX.frzStep, SX.fork, Go.Value.cells, Go.undef, cfg4, hc1]
        refine ⟨by (unfold SX.Ob; first | trivial | omega | ((try simp only [SX.inK]); (try simp [SX.den, SX.IsU8, SX.AllP, *]); (try omega))), ?_⟩
        intro a12 w12 hr12 _
        exact post_rnd (nx - (0 + 1)) (by omega) ⟨0 + 1, es7, clk7, rfl, by omega, hm7', hr12.re (by simp [envTo, SX.look, den]) ⟨⟨hr12.all.1.1, hr12.all.1.2.1, by simp⟩, trivial⟩ rfl rfl⟩
      · obtain ⟨y, hy⟩ : ∃ y, nth zeroEv X2 k = y := ⟨_, rfl⟩
        have hyx : ¬ x.at_ < y.at_ := by
          have h := List.pairwise_iff_getElem.1 hStX.2.2 k (k + 1) (by omega) (by omega) (by omega)
          rw [nth_lt (by omega)] at hy
          rw [nth_lt (by omega)] at hx
          rw [hy, hx] at h
          omega
        have hk1 : (0 : Int) < (k : Int) + 1 := by omega
        have hkn : k < nx := by omega
        have hkn2 : k < X2.length := by omega
        refine seg cfg4_ok mixed PanicFree.body 1000 [false] [(66, false), (69, true)] hrq (by first | trivial | exact HpRep.nil | assumption) (by kernel_rfl) fun s_ hs_ => ?_
        simp (maxSteps := 10000000) [SX.vc, SX.stop, SX.contS, SX.contB, SX.contW, SX.contR, SX.contD, SX.sxStep, SX.stepPure, SX.stepNew, SX.stepStore, SX.stepKeep, SX.guardIx, SX.evOp, SX.opd, SX.opds, SX.optOpd, SX.look, SX.putS, SX.gobs, SX.AllP, SX.leave, SX.lookC, SX.lookB, SX.lookT, SX.lookN, SX.findK, SX.evBuiltin, SX.ints, SX.foldI, SX.evBin, SX.evInt, SX.evStr, SX.evEq, SX.arith, SX.evLoad, SX.shapeUp, SX.evFieldAddr, SX.evField, SX.evIndexAddr, SX.evIndex, SX.evFill, SX.evBuild, SX.szs, SX.cellsV, SX.evNew, SX.evStore, SX.spliceL, SX.SV.cells, SX.evConv, SX.evSlice, SX.bnd, SX.evNil, SX.evUn, SX.evPick, SX.pickOpd, SX.popTo, SX.cnd, SX.env0, SX.TD.isAgg, SX.TD.isIface, SX.tails, SX.NotAgg, SX.evLookup, SX.evConvH, SX.evPtrEq, SX.isCells, SX.thaw, SX.frz, SX.fixB, SX.rootIx, SX.Froz, SX.frzStep, SX.fork, Go.Value.cells, Go.undef, cfg4, hc1, evRow, hy, hyx, hk1, hkn, hkn2]
        refine ⟨by (unfold SX.Ob; first | trivial | omega | ((try simp only [SX.inK]); (try simp [SX.den, SX.IsU8, SX.AllP, *]); (try omega))), ?_⟩
        intro a12 w12 hr12 _
        exact post_rnd (nx - (k + 1 + 1)) (by omega) ⟨k + 1 + 1, es7, clk7, rfl, by omega, hm7', hr12.re (by simp [envTo, SX.look, den]) ⟨⟨hr12.all.1.1, hr12.all.1.2.1, by simp⟩, trivial⟩ rfl rfl⟩

  obtain rfl : k = nx := by omega
  refine seg cfg4_ok mixed PanicFree.body 1000 [false] [] hr13 (by first | trivial | exact HpRep.nil | assumption) (by kernel_rfl) fun s_ hs_ => ?_
  simp (maxSteps := 10000000) [SX.vc, SX.stop, SX.contS, SX.contB, SX.contW, SX.contR, SX.contD, SX.sxStep, SX.stepPure, SX.stepNew, SX.stepStore, SX.stepKeep, SX.guardIx, SX.evOp, SX.opd, SX.opds, SX.optOpd, SX.look, SX.putS, SX.gobs, SX.AllP, SX.leave, SX.lookC, SX.lookB, SX.lookT, SX.lookN, SX.findK, SX.evBuiltin, SX.ints, SX.foldI, SX.evBin, SX.evInt, SX.evStr, SX.evEq, SX.arith, SX.evLoad, SX.shapeUp, SX.evFieldAddr, SX.evField, SX.evIndexAddr, SX.evIndex, SX.evFill, SX.evBuild, SX.szs, SX.cellsV, SX.evNew, SX.evStore, SX.spliceL, SX.SV.cells, SX.evConv, SX.evSlice, SX.bnd, SX.evNil, SX.evUn, SX.evPick, SX.pickOpd, SX.popTo, SX.cnd, SX.env0, SX.TD.isAgg, SX.TD.isIface, SX.tails, SX.NotAgg, SX.evLookup, SX.evConvH, SX.evPtrEq, SX.isCells, SX.thaw, SX.frz, SX.fixB, SX.rootIx, SX.Froz, SX.frzStep, SX.fork, Go.Value.cells, Go.undef, cfg4]
  refine ⟨by (unfold SX.Ob; first | trivial | omega | ((try simp only [SX.inK]); (try simp [SX.den, SX.IsU8, SX.AllP, *]); (try omega))), ?_⟩
  intro a14 w14 hr14 _
  refine post_loop (OrL4 _ L (.slice ad L.length cp) (.slice adx k cpx)) L.length ⟨0, rfl, by omega, hr14.re (by simp [envTo, SX.look]) trivial rfl rfl⟩ ?_
  clear hr13 hr14 hm hX13
  rintro m a15 w15 ⟨k2, rfl, hk2, hr15⟩
  have z15 : w11.heap.size ≤ w15.heap.size := hr15.keeps.size
  have hb11 : bm < w11.heap.size := lt_of_heap hb0
  have hL15 := hL11.keep hr15.keeps (by simp [frameAt, mutB]; omega)
  by_cases hlt : k2 < L.length
  · obtain ⟨bL, oL, cap, u, fz, hPL, hv, hrep⟩ := hL15.opn hlt
    cases hv
    obtain ⟨x, hx⟩ : ∃ x, nth zeroEv L k2 = x := ⟨_, rfl⟩
    have h16 := (hr15.top 82 (.sl 0 bL oL 0 L.length cp 5) rfl (by simp [den])).see [(bL, false, .arr oL L.length (fun j => evRow (nth zeroEv L j)) 5 u fz)] (HpAll.one hrep)
    refine seg cfg4_ok mixed PanicFree.body 1000 [true] [] h16 (by first | trivial | exact HpRep.nil | assumption) (by kernel_rfl) fun cE hcE => ?_
    simp (maxSteps := 10000000) [SX.vc, SX.stop, SX.contS, SX.contB, SX.contW, SX.contR, SX.contD, SX.sxStep, SX.stepPure, SX.stepNew, SX.stepStore, SX.stepKeep, SX.guardIx, SX.evOp, SX.opd, SX.opds, SX.optOpd, SX.look, SX.putS, SX.gobs, SX.AllP, SX.leave, SX.lookC, SX.lookB, SX.lookT, SX.lookN, SX.findK, SX.evBuiltin, SX.ints, SX.foldI, SX.evBin, SX.evInt, SX.evStr, SX.evEq, SX.arith, SX.evLoad, SX.shapeUp, SX.evFieldAddr, SX.evField, SX.evIndexAddr, SX.evIndex, SX.evFill, SX.evBuild, SX.szs, SX.cellsV, SX.evNew, SX.evStore, SX.spliceL, SX.SV.cells, SX.evConv, SX.evSlice, SX.bnd, SX.evNil, SX.evUn, SX.evPick, SX.pickOpd, SX.popTo, SX.cnd, SX.env0, SX.TD.isAgg, SX.TD.isIface, SX.tails, SX.NotAgg, SX.evLookup, SX.evConvH, SX.evPtrEq, SX.isCells, SX.thaw, SX.frz, SX.fixB, SX.rootIx, SX.Froz, SX.frzStep, SX.fork, Go.Value.cells, Go.undef, cfg4, evRow, hx]
    refine ⟨by (unfold SX.Ob; first | trivial | omega | ((try simp only [SX.inK]); (try simp [SX.den, SX.IsU8, SX.AllP, *]); (try omega))), ?_⟩
    intro a17 w17 hr17 _
    have hA17 := hr17.all
    have z17 : w11.heap.size ≤ w17.heap.size := hr17.keeps.size
    have hcE : ¬ cE = bm := by
      have e := z15
      omega
    refine post_loop (OrL6 _ L X2 (.slice (some ⟨bL, oL, none⟩) L.length cp) (.slice adx k cpx) k2 x cE) L.length ⟨0, .slice none 0 0, .slice none 0 0, fun _ => False, fun _ => False, rfl, by omega, OwS.nil, OwS.nil, fun _ h => h.elim, fun _ h => h.elim, fun _ h => h.elim, hr17.re (by simp [envTo, SX.look, den]) ⟨⟨hA17.2.1.1, hA17.2.1.2.1, by simp⟩, trivial⟩ rfl rfl⟩ ?_
    clear h16 hr17 hr15 hL15 hA17
    rintro m a18 w18 ⟨j, vo, vp, PA, PB, rfl, hj, hOA, hOB, hAB, hPA, hPB, hr18⟩
    have z18 : w11.heap.size ≤ w18.heap.size := hr18.keeps.size
    by_cases hlt6 : j < L.length
    · refine seg cfg4_ok mixed PanicFree.body 15 [true] [] hr18.rebase (by first | trivial | exact HpRep.nil | assumption) (by kernel_rfl) fun s_ hs_ => ?_
      simp (maxSteps := 10000000) [SX.vc, SX.stop, SX.contS, SX.contB, SX.contW, SX.contR, SX.contD, SX.sxStep, SX.stepPure, SX.stepNew, SX.stepStore, SX.stepKeep, SX.guardIx, SX.evOp, SX.opd, SX.opds, SX.optOpd, SX.look, SX.putS, SX.gobs, SX.AllP, SX.leave, SX.lookC, SX.lookB, SX.lookT, SX.lookN, SX.findK, SX.evBuiltin, SX.ints, SX.foldI, SX.evBin, SX.evInt, SX.evStr, SX.evEq, SX.arith, SX.evLoad, SX.shapeUp, SX.evFieldAddr, SX.evField, SX.evIndexAddr, SX.evIndex, SX.evFill, SX.evBuild, SX.szs, SX.cellsV, SX.evNew, SX.evStore, SX.spliceL, SX.SV.cells, SX.evConv, SX.evSlice, SX.bnd, SX.evNil, SX.evUn, SX.evPick, SX.pickOpd, SX.popTo, SX.cnd, SX.env0, SX.TD.isAgg, SX.TD.isIface, SX.tails, SX.NotAgg, SX.evLookup, SX.evConvH, SX.evPtrEq, SX.isCells, SX.thaw, SX.frz, SX.fixB, SX.rootIx, SX.Froz, SX.frzStep, SX.fork, Go.Value.cells, Go.undef, cfg4]
      refine ⟨by (unfold SX.Ob; first | trivial | omega | ((try simp only [SX.inK]); (try simp [SX.den, SX.IsU8, SX.AllP, *]); (try omega))), ?_⟩
      intro a19 w19 hr19' _
      have hr19 := hr18.unbase hr19'
      have z19 : w18.heap.size ≤ w19.heap.size := hr19'.keeps.size
      have hOA19 := hOA.keep hr19'.keeps (fun y hy hP' => by
        have g := hPA _ hP'
        simp [frameAt, mutB] at hy
        omega)
      have hOB19 := hOB.keep hr19'.keeps (fun y hy hP' => by
        have g := hPB _ hP'
        simp [frameAt, mutB] at hy
        omega)
      refine post_cut (OrJ6 (frameAt w11 [(bm, true, .obj (.map es0 clk0))]) L X2 (.slice (some ⟨bL, oL, none⟩) L.length cp) (.slice adx k cpx) k2 x cE j) 1 rfl ?_ fun a20 w20 hJ => ?_
      · obtain ⟨b9, o9, cap9, u7, fz7, hP7, hv7, hrep7⟩ := (hL11.keep hr19.keeps (by simp [frameAt, mutB]; omega)).opn (show j < L.length by omega)
        cases hv7
        obtain ⟨y, hy⟩ : ∃ y, nth zeroEv L j = y := ⟨_, rfl⟩
        have hA4 := hr19.all
        have gE : w11.heap.size ≤ cE := by
          have h := hA4.1.2.1 rfl
          simp [frameAt, mutB] at h
          rcases h with h | h
          · exact h
          · have := lt_of_heap hb0; exact absurd h (hcE)
        have h20 := (hr19.top 0 (.sl 1 bL oL 0 L.length cp 5) rfl (by simp [den])).see [(cE, true, .cells [.v (.int .i64 x.at_), .v (.int .i64 x.lba), .v (.bool x.rd), .v (.int .i64 x.ver), .v (.int .u8 x.by_)] 28), (bL, false, .arr oL L.length (fun j => evRow (nth zeroEv L j)) 5 u7 fz7)] ⟨⟨hA4.1.1, hA4.1.2.1, by simp; omega⟩, HpAll.one hrep7⟩
        have hf1 := filter_takeH (p := atE x) (show j < L.length by omega) hy
        have hlj : j < L.length := by omega
        have hwl : (List.filter (atE x) (List.take j L)).length ≤ 100000 := Nat.le_trans (List.length_filter_le _ _) (by simp; omega)
        by_cases hA : y.at_ = x.at_
        · rw [show atE x y = true by simp [atE, hA], if_pos rfl] at hf1
          refine seg cfg4_ok mixed PanicFree.body 1000 [true] [] h20.rebase (by first | trivial | exact HpRep.nil | assumption) (by kernel_rfl) fun sC hsC => ?_
          simp (maxSteps := 10000000) [SX.vc, SX.stop, SX.contS, SX.contB, SX.contW, SX.contR, SX.contD, SX.sxStep, SX.stepPure, SX.stepNew, SX.stepStore, SX.stepKeep, SX.guardIx, SX.evOp, SX.opd, SX.opds, SX.optOpd, SX.look, SX.putS, SX.gobs, SX.AllP, SX.leave, SX.lookC, SX.lookB, SX.lookT, SX.lookN, SX.findK, SX.evBuiltin, SX.ints, SX.foldI, SX.evBin, SX.evInt, SX.evStr, SX.evEq, SX.arith, SX.evLoad, SX.shapeUp, SX.evFieldAddr, SX.evField, SX.evIndexAddr, SX.evIndex, SX.evFill, SX.evBuild, SX.szs, SX.cellsV, SX.evNew, SX.evStore, SX.spliceL, SX.SV.cells, SX.evConv, SX.evSlice, SX.bnd, SX.evNil, SX.evUn, SX.evPick, SX.pickOpd, SX.popTo, SX.cnd, SX.env0, SX.TD.isAgg, SX.TD.isIface, SX.tails, SX.NotAgg, SX.evLookup, SX.evConvH, SX.evPtrEq, SX.isCells, SX.thaw, SX.frz, SX.fixB, SX.rootIx, SX.Froz, SX.frzStep, SX.fork, Go.Value.cells, Go.undef, cfg4, evRow, hy, hA, hlj]
          refine ⟨by (unfold SX.Ob; first | trivial | omega | ((try simp only [SX.inK]); (try simp [SX.den, SX.IsU8, SX.AllP, *]); (try omega))), ?_⟩
          intro a6 w6 hr6' _
          have hr6 := h20.unbase hr6'
          have z6 : w19.heap.size ≤ w6.heap.size := hr6'.keeps.size
          have hO6 := (hOA19.keep hr6'.keeps (fun y hy hP' => by
            have g := hPA _ hP'
            simp [frameAt, mutB] at hy
            omega)).mono (P' := fun x => PA x ∨ w6.heap.size ≤ x) fun x _ h => .inl h
          have hA6 := hr6.all
          have hn0 : ¬ (PA cE ∨ w6.heap.size ≤ cE) := fun h => by
            have g := SO.rep_lt hA4.1.1
            rcases h with h | h
            · exact absurd rfl (hPA _ h).2.2
            · omega
          have hF6 : ∀ x, (PA x ∨ w6.heap.size ≤ x) → (frameAt w11 ([(bm, true, .obj (.map es0 clk0))] : Hp)).B ≤ x ∨ x ∈ (frameAt w11 ([(bm, true, .obj (.map es0 clk0))] : Hp)).M := fun x hx => .inl (by
            rcases hx with h | h
            · exact (hPA _ h).1
            · simp only [frameAt]; omega)
          have hhOB6 := hOB19.keep hr6'.keeps (fun y hy hP' => by
            have g := hPB _ hP'
            simp [frameAt, mutB] at hy
            omega)
          refine post_app (C := cfg4) cfg4_ok hr6 (by first | exact wanted_none rfl | exact wanted_zero (hr6.env.same rfl rfl rfl rfl) rfl (by simp)) rfl (by simp) rfl rfl rfl rfl rfl rfl rfl rfl rfl (by decide) (flatH _) (by (try simp only [List.length_append, List.length_cons, List.length_nil, List.length_map, List.length_take]); omega) (fun x hx => .inr hx) hO6 (RdS.lit (enc := evRow) (sz := 5) (d := zeroEv) (x := y) hr6.all.2.2.1.1 (by simp [evRow, hA])) [(cE, true, .cells [.v (.int .i64 x.at_), .v (.int .i64 x.lba), .v (.bool x.rd), .v (.int .i64 x.ver), .v (.int .u8 x.by_)] 28)] (fun w' B hk hB' => ⟨⟨KeepsTo.same hk hA6.1.1 (fun h => hn0 (hB' _ h).1), hA6.1.2.1, by simp⟩, trivial⟩) hF6 fun V7 a7 w7 B7 hO7 hB7 hk7 hr7 => ?_
          have z7 : w6.heap.size ≤ w7.heap.size := hk7.size
          have hhOB7 := hhOB6.keep hk7 (fun y hy hQ => by
            have g := (hB7 y hy).1
            rcases g with g | g
            · exact hAB y g hQ
            · have := (hPB _ hQ).2.1
              omega)
          obtain ⟨adV, nV, cpV, rfl⟩ : ∃ ad n cp, V7 = Value.slice ad n cp := by obtain ⟨x1, x2, h1⟩ := hO7.slice; exact ⟨_, _, _, h1⟩
          refine seg cfg4_ok mixed PanicFree.body 1000 [] [] hr7.rebase (by first | trivial | exact HpRep.nil | assumption) (by kernel_rfl) fun s_ hs_ => ?_
          simp (maxSteps := 10000000) [SX.vc, SX.stop, SX.contS, SX.contB, SX.contW, SX.contR, SX.contD, SX.sxStep, SX.stepPure, SX.stepNew, SX.stepStore, SX.stepKeep, SX.guardIx, SX.evOp, SX.opd, SX.opds, SX.optOpd, SX.look, SX.putS, SX.gobs, SX.AllP, SX.leave, SX.lookC, SX.lookB, SX.lookT, SX.lookN, SX.findK, SX.evBuiltin, SX.ints, SX.foldI, SX.evBin, SX.evInt, SX.evStr, SX.evEq, SX.arith, SX.evLoad, SX.shapeUp, SX.evFieldAddr, SX.evField, SX.evIndexAddr, SX.evIndex, SX.evFill, SX.evBuild, SX.szs, SX.cellsV, SX.evNew, SX.evStore, SX.spliceL, SX.SV.cells, SX.evConv, SX.evSlice, SX.bnd, SX.evNil, SX.evUn, SX.evPick, SX.pickOpd, SX.popTo, SX.cnd, SX.env0, SX.TD.isAgg, SX.TD.isIface, SX.tails, SX.NotAgg, SX.evLookup, SX.evConvH, SX.evPtrEq, SX.isCells, SX.thaw, SX.frz, SX.fixB, SX.rootIx, SX.Froz, SX.frzStep, SX.fork, Go.Value.cells, Go.undef, cfg4]
          refine ⟨by (unfold SX.Ob; first | trivial | omega | ((try simp only [SX.inK]); (try simp [SX.den, SX.IsU8, SX.AllP, *]); (try omega))), ?_⟩
          intro a8 w8 hr8' _
          have hr8 := hr7.unbase hr8'
          have z8 : w7.heap.size ≤ w8.heap.size := hr8'.keeps.size
          have hO8 := (hO7.mono (P' := fun x => (PA x ∨ w6.heap.size ≤ x) ∧ x < w7.heap.size) fun x h1 h2 => ⟨h2, h1⟩).keep hr8'.keeps (fun y hy hP' => by
            simp [frameAt, mutB] at hy
            subst hy
            exact hn0 hP'.1)
          have hhOB8 := hhOB7.keep hr8'.keeps (fun y hy hP' => by
            have g := hPB _ hP'
            simp [frameAt, mutB] at hy
            omega)
          have hP8 : ∀ y, ((PA y ∨ w6.heap.size ≤ y) ∧ y < w7.heap.size) → (frameAt w11 ([(bm, true, .obj (.map es0 clk0))] : Hp)).B ≤ y ∧ y < w8.heap.size ∧ y ≠ cE := fun y hy => by
            refine ⟨?_, by omega, fun e => hn0 (e ▸ hy.1)⟩
            rcases hy.1 with h | h
            · exact (hPA _ h).1
            · simp only [frameAt]; omega
          exact post_inv ⟨_, vp, _, PB, by rw [hf1]; exact hO8, hhOB8, fun y h2 h1 => (by
              rcases h2.1 with h | h
              · exact hAB y h h1
              · have := (hPB _ h1).2.1
                omega), hP8, (fun y h => by
              have := hPB y h
              omega), hr8.re (by simp [envTo, SX.look, den]) (hr8.all.take 1) rfl rfl⟩
        · rw [show atE x y = false by simp [atE, hA]] at hf1
          simp only [Bool.false_eq_true, if_false, List.append_nil] at hf1
          refine seg cfg4_ok mixed PanicFree.body 1000 [false] [] h20.rebase (by first | trivial | exact HpRep.nil | assumption) (by kernel_rfl) fun s_ hs_ => ?_
          simp (maxSteps := 10000000) [SX.vc, SX.stop, SX.contS, SX.contB, SX.contW, SX.contR, SX.contD, SX.sxStep, SX.stepPure, SX.stepNew, SX.stepStore, SX.stepKeep, SX.guardIx, SX.evOp, SX.opd, SX.opds, SX.optOpd, SX.look, SX.putS, SX.gobs, SX.AllP, SX.leave, SX.lookC, SX.lookB, SX.lookT, SX.lookN, SX.findK, SX.evBuiltin, SX.ints, SX.foldI, SX.evBin, SX.evInt, SX.evStr, SX.evEq, SX.arith, SX.evLoad, SX.shapeUp, SX.evFieldAddr, SX.evField, SX.evIndexAddr, SX.evIndex, SX.evFill, SX.evBuild, SX.szs, SX.cellsV, SX.evNew, SX.evStore, SX.spliceL, SX.SV.cells, SX.evConv, SX.evSlice, SX.bnd, SX.evNil, SX.evUn, SX.evPick, SX.pickOpd, SX.popTo, SX.cnd, SX.env0, SX.TD.isAgg, SX.TD.isIface, SX.tails, SX.NotAgg, SX.evLookup, SX.evConvH, SX.evPtrEq, SX.isCells, SX.thaw, SX.frz, SX.fixB, SX.rootIx, SX.Froz, SX.frzStep, SX.fork, Go.Value.cells, Go.undef, cfg4, evRow, hy, hA, hlj]
          refine ⟨by (unfold SX.Ob; first | trivial | omega | ((try simp only [SX.inK]); (try simp [SX.den, SX.IsU8, SX.AllP, *]); (try omega))), ?_⟩
          intro a8 w8 hr8' _
          have hr8 := h20.unbase hr8'
          have z8 : w19.heap.size ≤ w8.heap.size := hr8'.keeps.size
          have hO8 := hOA19.keep hr8'.keeps (fun y hy hP' => by
            have g := hPA _ hP'
            simp [frameAt, mutB] at hy
            omega)
          have hhOB8 := hOB19.keep hr8'.keeps (fun y hy hP' => by
            have g := hPB _ hP'
            simp [frameAt, mutB] at hy
            omega)
          exact post_inv ⟨vo, vp, PA, PB, by rw [hf1]; exact hO8, hhOB8, hAB, (fun y h => by
              have := hPA y h
              omega), (fun y h => by
              have := hPB y h
              omega), hr8.re (by simp [envTo, SX.look, den]) (hr8.all.take 1) rfl rfl⟩
      clear hr18 hr19 hr19' hOA hOB hOA19 hOB19 hAB hPA hPB
      obtain ⟨vo, vp, PA, PB, hOA, hOB, hAB, hPA, hPB, hr20⟩ := hJ
      have z20 : w11.heap.size ≤ w20.heap.size := hr20.keeps.size
      obtain ⟨bX, oX, capX, u7, fz7, hP7, hv7, hrep7⟩ := (hX11.keep hr20.keeps (by simp [frameAt, mutB]; omega)).opn (show j < X2.length by omega)
      rw [← hnx] at hv7
      cases hv7
      obtain ⟨y2, hy⟩ : ∃ y2, nth zeroEv X2 j = y2 := ⟨_, rfl⟩
      have hA4 := hr20.all
      have gE : w11.heap.size ≤ cE := by
        have h := hA4.1.2.1 rfl
        simp [frameAt, mutB] at h
        rcases h with h | h
        · exact h
        · have := lt_of_heap hb0; exact absurd h (hcE)
      have h20 := (hr20.top 4 (.sl 1 bX oX 0 k cpx 5) rfl (by simp [den])).see [(cE, true, .cells [.v (.int .i64 x.at_), .v (.int .i64 x.lba), .v (.bool x.rd), .v (.int .i64 x.ver), .v (.int .u8 x.by_)] 28), (bX, false, .arr oX X2.length (fun j => evRow (nth zeroEv X2 j)) 5 u7 fz7)] ⟨⟨hA4.1.1, hA4.1.2.1, by simp; omega⟩, HpAll.one hrep7⟩
      have hf1 := filter_takeH (p := atE x) (show j < X2.length by omega) hy
      have hlj : j < k := by omega
      have hwl : (List.filter (atE x) (List.take j X2)).length ≤ 100000 := Nat.le_trans (List.length_filter_le _ _) (by simp; omega)
      by_cases hB : y2.at_ = x.at_
      · rw [show atE x y2 = true by simp [atE, hB], if_pos rfl] at hf1
        refine seg cfg4_ok mixed PanicFree.body 1000 [true] [] h20.rebase (by first | trivial | exact HpRep.nil | assumption) (by kernel_rfl) fun sC hsC => ?_
        simp (maxSteps := 10000000) [SX.vc, SX.stop, SX.contS, SX.contB, SX.contW, SX.contR, SX.contD, SX.sxStep, SX.stepPure, SX.stepNew, SX.stepStore, SX.stepKeep, SX.guardIx, SX.evOp, SX.opd, SX.opds, SX.optOpd, SX.look, SX.putS, SX.gobs, SX.AllP, SX.leave, SX.lookC, SX.lookB, SX.lookT, SX.lookN, SX.findK, SX.evBuiltin, SX.ints, SX.foldI, SX.evBin, SX.evInt, SX.evStr, SX.evEq, SX.arith, SX.evLoad, SX.shapeUp, SX.evFieldAddr, SX.evField, SX.evIndexAddr, SX.evIndex, SX.evFill, SX.evBuild, SX.szs, SX.cellsV, SX.evNew, SX.evStore, SX.spliceL, SX.SV.cells, SX.evConv, SX.evSlice, SX.bnd, SX.evNil, SX.evUn, SX.evPick, SX.pickOpd, SX.popTo, SX.cnd, SX.env0, SX.TD.isAgg, SX.TD.isIface, SX.tails, SX.NotAgg, SX.evLookup, SX.evConvH, SX.evPtrEq, SX.isCells, SX.thaw, SX.frz, SX.fixB, SX.rootIx, SX.Froz, SX.frzStep, SX.fork, Go.Value.cells, Go.undef, cfg4, evRow, hy, hB, hlj]
        refine ⟨by (unfold SX.Ob; first | trivial | omega | ((try simp only [SX.inK]); (try simp [SX.den, SX.IsU8, SX.AllP, *]); (try omega))), ?_⟩
        intro a6 w6 hr6' _
        have hr6 := h20.unbase hr6'
        have z6 : w20.heap.size ≤ w6.heap.size := hr6'.keeps.size
        have hO6 := (hOB.keep hr6'.keeps (fun y hy hP' => by
          have g := hPB _ hP'
          simp [frameAt, mutB] at hy
          omega)).mono (P' := fun x => PB x ∨ w6.heap.size ≤ x) fun x _ h => .inl h
        have hA6 := hr6.all
        have hn0 : ¬ (PB cE ∨ w6.heap.size ≤ cE) := fun h => by
          have g := SO.rep_lt hA4.1.1
          rcases h with h | h
          · exact absurd rfl (hPB _ h).2.2
          · omega
        have hF6 : ∀ x, (PB x ∨ w6.heap.size ≤ x) → (frameAt w11 ([(bm, true, .obj (.map es0 clk0))] : Hp)).B ≤ x ∨ x ∈ (frameAt w11 ([(bm, true, .obj (.map es0 clk0))] : Hp)).M := fun x hx => .inl (by
          rcases hx with h | h
          · exact (hPB _ h).1
          · simp only [frameAt]; omega)
        have hhOA6 := hOA.keep hr6'.keeps (fun y hy hP' => by
          have g := hPA _ hP'
          simp [frameAt, mutB] at hy
          omega)
        refine post_app (C := cfg4) cfg4_ok hr6 (by first | exact wanted_none rfl | exact wanted_zero (hr6.env.same rfl rfl rfl rfl) rfl (by simp)) rfl (by simp) rfl rfl rfl rfl rfl rfl rfl rfl rfl (by decide) (flatH _) (by (try simp only [List.length_append, List.length_cons, List.length_nil, List.length_map, List.length_take]); omega) (fun x hx => .inr hx) hO6 (RdS.lit (enc := evRow) (sz := 5) (d := zeroEv) (x := y2) hr6.all.2.2.1.1 (by simp [evRow, hB])) [(cE, true, .cells [.v (.int .i64 x.at_), .v (.int .i64 x.lba), .v (.bool x.rd), .v (.int .i64 x.ver), .v (.int .u8 x.by_)] 28)] (fun w' B hk hB' => ⟨⟨KeepsTo.same hk hA6.1.1 (fun h => hn0 (hB' _ h).1), hA6.1.2.1, by simp⟩, trivial⟩) hF6 fun V7 a7 w7 B7 hO7 hB7 hk7 hr7 => ?_
        have z7 : w6.heap.size ≤ w7.heap.size := hk7.size
        have hhOA7 := hhOA6.keep hk7 (fun y hy hQ => by
          have g := (hB7 y hy).1
          rcases g with g | g
          · exact hAB y hQ g
          · have := (hPA _ hQ).2.1
            omega)
        obtain ⟨adV, nV, cpV, rfl⟩ : ∃ ad n cp, V7 = Value.slice ad n cp := by obtain ⟨x1, x2, h1⟩ := hO7.slice; exact ⟨_, _, _, h1⟩
        refine seg cfg4_ok mixed PanicFree.body 1000 [] [] hr7.rebase (by first | trivial | exact HpRep.nil | assumption) (by kernel_rfl) fun s_ hs_ => ?_
        simp (maxSteps := 10000000) [SX.vc, SX.stop, SX.contS, SX.contB, SX.contW, SX.contR, SX.contD, SX.sxStep, SX.stepPure, SX.stepNew, SX.stepStore, SX.stepKeep, SX.guardIx, SX.evOp, SX.opd, SX.opds, SX.optOpd, SX.look, SX.putS, SX.gobs, SX.AllP, SX.leave, SX.lookC, SX.lookB, SX.lookT, SX.lookN, SX.findK, SX.evBuiltin, SX.ints, SX.foldI, SX.evBin, SX.evInt, SX.evStr, SX.evEq, SX.arith, SX.evLoad, SX.shapeUp, SX.evFieldAddr, SX.evField, SX.evIndexAddr, SX.evIndex, SX.evFill, SX.evBuild, SX.szs, SX.cellsV, SX.evNew, SX.evStore, SX.spliceL, SX.SV.cells, SX.evConv, SX.evSlice, SX.bnd, SX.evNil, SX.evUn, SX.evPick, SX.pickOpd, SX.popTo, SX.cnd, SX.env0, SX.TD.isAgg, SX.TD.isIface, SX.tails, SX.NotAgg, SX.evLookup, SX.evConvH, SX.evPtrEq, SX.isCells, SX.thaw, SX.frz, SX.fixB, SX.rootIx, SX.Froz, SX.frzStep, SX.fork, Go.Value.cells, Go.undef, cfg4]
        refine ⟨by (unfold SX.Ob; first | trivial | omega | ((try simp only [SX.inK]); (try simp [SX.den, SX.IsU8, SX.AllP, *]); (try omega))), ?_⟩
        intro a8 w8 hr8' _
        have hr8 := hr7.unbase hr8'
        have z8 : w7.heap.size ≤ w8.heap.size := hr8'.keeps.size
        have hO8 := (hO7.mono (P' := fun x => (PB x ∨ w6.heap.size ≤ x) ∧ x < w7.heap.size) fun x h1 h2 => ⟨h2, h1⟩).keep hr8'.keeps (fun y hy hP' => by
          simp [frameAt, mutB] at hy
          subst hy
          exact hn0 hP'.1)
        have hhOA8 := hhOA7.keep hr8'.keeps (fun y hy hP' => by
          have g := hPA _ hP'
          simp [frameAt, mutB] at hy
          omega)
        have hP8 : ∀ y, ((PB y ∨ w6.heap.size ≤ y) ∧ y < w7.heap.size) → (frameAt w11 ([(bm, true, .obj (.map es0 clk0))] : Hp)).B ≤ y ∧ y < w8.heap.size ∧ y ≠ cE := fun y hy => by
          refine ⟨?_, by omega, fun e => hn0 (e ▸ hy.1)⟩
          rcases hy.1 with h | h
          · exact (hPB _ h).1
          · simp only [frameAt]; omega
        exact post_rnd (L.length - (j + 1)) (by omega) ⟨j + 1, vo, _, PA, _, rfl, by omega, hhOA8, by rw [hf1]; exact hO8, fun y h1 h2 => (by
            rcases h2.1 with h | h
            · exact hAB y h1 h
            · have := (hPA _ h1).2.1
              omega), (fun y h => by
            have := hPA y h
            omega), hP8, hr8.re (by simp [envTo, SX.look, den]) (hr8.all.take 1) rfl rfl⟩
      · rw [show atE x y2 = false by simp [atE, hB]] at hf1
        simp only [Bool.false_eq_true, if_false, List.append_nil] at hf1
        refine seg cfg4_ok mixed PanicFree.body 1000 [false] [] h20.rebase (by first | trivial | exact HpRep.nil | assumption) (by kernel_rfl) fun s_ hs_ => ?_
        simp (maxSteps := 10000000) [SX.vc, SX.stop, SX.contS, SX.contB, SX.contW, SX.contR, SX.contD, SX.sxStep, SX.stepPure, SX.stepNew, SX.stepStore, SX.stepKeep, SX.guardIx, SX.evOp, SX.opd, SX.opds, SX.optOpd, SX.look, SX.putS, SX.gobs, SX.AllP, SX.leave, SX.lookC, SX.lookB, SX.lookT, SX.lookN, SX.findK, SX.evBuiltin, SX.ints, SX.foldI, SX.evBin, SX.evInt, SX.evStr, SX.evEq, SX.arith, SX.evLoad, SX.shapeUp, SX.evFieldAddr, SX.evField, SX.evIndexAddr, SX.evIndex, SX.evFill, SX.evBuild, SX.szs, SX.cellsV, SX.evNew, SX.evStore, SX.spliceL, SX.SV.cells, SX.evConv, SX.evSlice, SX.bnd, SX.evNil, SX.evUn, SX.evPick, SX.pickOpd, SX.popTo, SX.cnd, SX.env0, SX.TD.isAgg, SX.TD.isIface, SX.tails, SX.NotAgg, SX.evLookup, SX.evConvH, SX.evPtrEq, SX.isCells, SX.thaw, SX.frz, SX.fixB, SX.rootIx, SX.Froz, SX.frzStep, SX.fork, Go.Value.cells, Go.undef, cfg4, evRow, hy, hB, hlj]
        refine ⟨by (unfold SX.Ob; first | trivial | omega | ((try simp only [SX.inK]); (try simp [SX.den, SX.IsU8, SX.AllP, *]); (try omega))), ?_⟩
        intro a8 w8 hr8' _
        have hr8 := h20.unbase hr8'
        have z8 : w20.heap.size ≤ w8.heap.size := hr8'.keeps.size
        have hO8 := hOB.keep hr8'.keeps (fun y hy hP' => by
          have g := hPB _ hP'
          simp [frameAt, mutB] at hy
          omega)
        have hhOA8 := hOA.keep hr8'.keeps (fun y hy hP' => by
          have g := hPA _ hP'
          simp [frameAt, mutB] at hy
          omega)
        exact post_rnd (L.length - (j + 1)) (by omega) ⟨j + 1, vo, vp, PA, PB, rfl, by omega, hhOA8, by rw [hf1]; exact hO8, hAB, (fun y h => by
            have := hPA y h
            omega), (fun y h => by
            have := hPB y h
            omega), hr8.re (by simp [envTo, SX.look, den]) (hr8.all.take 1) rfl rfl⟩
    obtain rfl : j = L.length := by omega
    have hjX : L.length = X2.length := by omega
    rw [List.take_length] at hOA
    rw [hjX, List.take_length] at hOB
    have hEq : X2.filter (atE x) = L.filter (atE x) := hStX.2.1 x.at_
    rw [hEq] at hOB
    refine seg cfg4_ok mixed PanicFree.body 1000 [false] [] hr18.rebase (by first | trivial | exact HpRep.nil | assumption) (by kernel_rfl) fun s_ hs_ => ?_
    simp (maxSteps := 10000000) [SX.vc, SX.stop, SX.contS, SX.contB, SX.contW, SX.contR, SX.contD, SX.sxStep, SX.stepPure, SX.stepNew, SX.stepStore, SX.stepKeep, SX.guardIx, SX.evOp, SX.opd, SX.opds, SX.optOpd, SX.look, SX.putS, SX.gobs, SX.AllP, SX.leave, SX.lookC, SX.lookB, SX.lookT, SX.lookN, SX.findK, SX.evBuiltin, SX.ints, SX.foldI, SX.evBin, SX.evInt, SX.evStr, SX.evEq, SX.arith, SX.evLoad, SX.shapeUp, SX.evFieldAddr, SX.evField, SX.evIndexAddr, SX.evIndex, SX.evFill, SX.evBuild, SX.szs, SX.cellsV, SX.evNew, SX.evStore, SX.spliceL, SX.SV.cells, SX.evConv, SX.evSlice, SX.bnd, SX.evNil, SX.evUn, SX.evPick, SX.pickOpd, SX.popTo, SX.cnd, SX.env0, SX.TD.isAgg, SX.TD.isIface, SX.tails, SX.NotAgg, SX.evLookup, SX.evConvH, SX.evPtrEq, SX.isCells, SX.thaw, SX.frz, SX.fixB, SX.rootIx, SX.Froz, SX.frzStep, SX.fork, Go.Value.cells, Go.undef, cfg4]
    refine ⟨by (unfold SX.Ob; first | trivial | omega | ((try simp only [SX.inK]); (try simp [SX.den, SX.IsU8, SX.AllP, *]); (try omega))), ?_⟩
    intro a21 w21 hr21' _
    have hr21 := hr18.unbase hr21'
    have hOA21 := hOA.keep hr21'.keeps (fun y hy hP' => by
      have g := hPA _ hP'
      simp [frameAt, mutB] at hy
      omega)
    have hOB21 := hOB.keep hr21'.keeps (fun y hy hP' => by
      have g := hPB _ hP'
      simp [frameAt, mutB] at hy
      omega)
    have hwl : (List.filter (atE x) L).length ≤ 100000 := Nat.le_trans (List.length_filter_le _ _) (by omega)
    refine post_call 11 [.v vo, .v vp] hr21 (by first | exact wanted_none rfl | exact wanted_zero (hr21.env.same rfl rfl rfl rfl) rfl (by simp) | exact wanted_zero (hr21.env.same rfl rfl rfl rfl) rfl (by simp [*])) rfl (callable 11 Try.func11) (same_ok w21 _ _ _ _ hOA21.rd hOB21.rd (by omega)) ?_
    rintro e23 w23 ⟨rfl, hb23⟩
    refine ⟨_, rfl, ?_⟩
    have h23 := hr21.ret hb23 126 (.v (.bool (decide (L.filter (atE x) = L.filter (atE x))))) rfl _ (hr21.all.below hb23) (by simp) rfl
    refine seg cfg4_ok mixed PanicFree.body 1000 [false] [] h23 (by first | trivial | exact HpRep.nil | assumption) (by kernel_rfl) fun s_ hs_ => ?_
    simp (maxSteps := 10000000) [SX.vc, SX.stop, SX.contS, SX.contB, SX.contW, SX.contR, SX.contD, SX.sxStep, SX.stepPure, SX.stepNew, SX.stepStore, SX.stepKeep, SX.guardIx, SX.evOp, SX.opd, SX.opds, SX.optOpd, SX.look, SX.putS, SX.gobs, SX.AllP, SX.leave, SX.lookC, SX.lookB, SX.lookT, SX.lookN, SX.findK, SX.evBuiltin, SX.ints, SX.foldI, SX.evBin, SX.evInt, SX.evStr, SX.evEq, SX.arith, SX.evLoad, SX.shapeUp, SX.evFieldAddr, SX.evField, SX.evIndexAddr, SX.evIndex, SX.evFill, SX.evBuild, SX.szs, SX.cellsV, SX.evNew, SX.evStore, SX.spliceL, SX.SV.cells, SX.evConv, SX.evSlice, SX.bnd, SX.evNil, SX.evUn, SX.evPick, SX.pickOpd, SX.popTo, SX.cnd, SX.env0, SX.TD.isAgg, SX.TD.isIface, SX.tails, SX.NotAgg, SX.evLookup, SX.evConvH, SX.evPtrEq, SX.isCells, SX.thaw, SX.frz, SX.fixB, SX.rootIx, SX.Froz, SX.frzStep, SX.fork, Go.Value.cells, Go.undef, cfg4]
    refine ⟨by (unfold SX.Ob; first | trivial | omega | ((try simp only [SX.inK]); (try simp [SX.den, SX.IsU8, SX.AllP, *]); (try omega))), ?_⟩
    intro a24 w24 hr24 _
    exact post_rnd (L.length - (k2 + 1)) (by omega) ⟨k2 + 1, rfl, by omega, hr24.re (by simp [envTo, SX.look, den]) trivial rfl rfl⟩
  · obtain rfl : k2 = L.length := by omega
    refine seg cfg4_ok mixed PanicFree.body 1000 [false] [] hr15 (by first | trivial | exact HpRep.nil | assumption) (by kernel_rfl) fun s_ hs_ => ?_
    simp (maxSteps := 10000000) [SX.vc, SX.stop, SX.contS, SX.contB, SX.contW, SX.contR, SX.contD, SX.sxStep, SX.stepPure, SX.stepNew, SX.stepStore, SX.stepKeep, SX.guardIx, SX.evOp, SX.opd, SX.opds, SX.optOpd, SX.look, SX.putS, SX.gobs, SX.AllP, SX.leave, SX.lookC, SX.lookB, SX.lookT, SX.lookN, SX.findK, SX.evBuiltin, SX.ints, SX.foldI, SX.evBin, SX.evInt, SX.evStr, SX.evEq, SX.arith, SX.evLoad, SX.shapeUp, SX.evFieldAddr, SX.evField, SX.evIndexAddr, SX.evIndex, SX.evFill, SX.evBuild, SX.szs, SX.cellsV, SX.evNew, SX.evStore, SX.spliceL, SX.SV.cells, SX.evConv, SX.evSlice, SX.bnd, SX.evNil, SX.evUn, SX.evPick, SX.pickOpd, SX.popTo, SX.cnd, SX.env0, SX.TD.isAgg, SX.TD.isIface, SX.tails, SX.NotAgg, SX.evLookup, SX.evConvH, SX.evPtrEq, SX.isCells, SX.thaw, SX.frz, SX.fixB, SX.rootIx, SX.Froz, SX.frzStep, SX.fork, Go.Value.cells, Go.undef, cfg4]
    refine ⟨by (unfold SX.Ob; first | trivial | omega | ((try simp only [SX.inK]); (try simp [SX.den, SX.IsU8, SX.AllP, *]); (try omega))), ?_⟩
    intro a25 w25 hr25 _
    have hE := hr12.unbase hr25
    exact post_retn (end1 hE rfl rfl ⟨rfl, hE.keeps.toBelow⟩).1
end Go.Proofs
