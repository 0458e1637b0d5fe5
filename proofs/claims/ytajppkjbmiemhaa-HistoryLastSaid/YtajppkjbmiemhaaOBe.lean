/- HistoryLast, walked. -/
import Derived.Test.YtajppkjbmiemhaaOBd
namespace Go.Proofs
set_option linter.unusedVariables false
set_option linter.unusedSimpArgs false
set_option linter.unusedSectionVars false
open Go Go.SX Go.RowKit Go.Hist

theorem side28 : eqSide Try.prog 28 = true := by kernel_rfl
theorem ok28 : ∀ t, (t == 28) = true → eqSide Try.prog t = true := by
  intro t h
  have e : t = 28 := by simpa using h
  rw [e]
  exact side28
theorem ev_beq (x y : HEv) : (x.at_ == y.at_ && (x.lba == y.lba && (x.rd == y.rd && (x.ver == y.ver && x.by_ == y.by_)))) = decide (x = y) := by
  rw [Bool.eq_iff_iff]
  simp only [Bool.and_eq_true, beq_iff_eq, decide_eq_true_eq]
  cases x; cases y
  simp
theorem eqEv {tt : List (Nat × TI)} {ok : Nat → Bool} (x y : HEv) (h1 : lookT tt 28 = some ⟨.struct [(0, 3), (1, 3), (2, 4), (3, 3), (4, 5)], 5, 40, .agg #[.int .i64 0, .int .i64 0, .bool false, .int .i64 0, .int .u8 0]⟩ := by rfl) (h3 : lookT tt 3 = some ⟨.int .i64, 1, 8, .int .i64 0⟩ := by rfl) (h4 : lookT tt 4 = some ⟨.bool, 1, 1, .bool false⟩ := by rfl) (h5 : lookT tt 5 = some ⟨.int .u8, 1, 1, .int .u8 0⟩ := by rfl) (hok : ok 28 = true := by rfl) :
    evEqA tt ok 40 28 (.ag (evRow x)) (.ag (evRow y)) = some (decide (x = y)) := by
  rw [← ev_beq]
  simp [evEqA, evEqF, eqPlain, h1, h3, h4, h5, hok, shapeUp, TD.isAgg, evRow]

def isW (n : Int) (e : HEv) : Bool := decide (e.lba = n) && !e.rd
/-- The last write's place. -/
def lastIx (L : List HEv) (n : Int) : Nat → Int
  | 0 => -1
  | k + 1 => if isW n (nth zeroEv L k) then (k : Int) else lastIx L n k
theorem lastIx_none {L : List HEv} {n : Int} : ∀ (k : Nat), (∀ j, j < k → isW n (nth zeroEv L j) = false) → lastIx L n k = -1
  | 0, _ => rfl
  | k + 1, h => by
    unfold lastIx
    rw [h k (by omega)]
    simp only [Bool.false_eq_true, if_false]
    exact lastIx_none k fun j hj => h j (by omega)
theorem lastIx_some {L : List HEv} {n : Int} {q : Nat} (hq : isW n (nth zeroEv L q) = true) : ∀ (k : Nat), q < k → (∀ j, q < j → j < k → isW n (nth zeroEv L j) = false) → lastIx L n k = q
  | 0, h, _ => by omega
  | k + 1, h, h2 => by
    unfold lastIx
    by_cases hk : k = q
    · subst hk; rw [hq]; simp
    · rw [h2 k (by omega) (by omega)]
      simp only [Bool.false_eq_true, if_false]
      exact lastIx_some hq k (by omega) fun j h3 h4 => h2 j h3 (by omega)
theorem isW_iff {n : Int} {e : HEv} : isW n e = false ↔ ¬ (e.lba = n ∧ e.rd = false) := by
  unfold isW
  cases e.rd <;> simp
abbrev evL (x : HEv) : List SV := [.v (.int .i64 x.at_), .v (.int .i64 x.lba), .v (.bool x.rd), .v (.int .i64 x.ver), .v (.int .u8 x.by_)]
def HlL0 (F : Fr) (L : List HEv) (n : Int) (ln : Nat) (x : HEv) (okk : Bool) (v : Value) (cX : Nat) (m : Nat) (a : Act) (w' : World) : Prop :=
  ∃ k : Nat, m = ln - k ∧ k ≤ ln ∧ RepX F ⟨[(30, 0, .v (.int .i64 k)), (29, 0, .v (.int .i64 ln)), (28, 0, .v v), (8, 0, .v (.int .i64 (lastIx L n k))), (7, 0, .v (.bool okk)), (6, 0, .ptr 0 cX 0), (5, 0, .v (.bool true)), (1, 0, .v (.int .i64 n)), (0, 0, .v v)], [(cX, true, .cells (evL x) 28)], 0, 0, 102, [], [], []⟩ a w'
def HlJ (F : Fr) (v : Value) (a : Act) (w' : World) : Prop :=
  RepX F ⟨[(5, 0, .v (.bool true)), (0, 0, .v v)], [], 0, 0, 102, [], [], []⟩ a w'
def HlL2 (F : Fr) (ln nk : Nat) (v vk : Value) (m : Nat) (a : Act) (w' : World) : Prop :=
  ∃ k : Nat, m = nk - k ∧ k ≤ nk ∧ RepX F ⟨[(65, 0, .v (.int .i64 k)), (64, 0, .v (.int .i64 nk)), (63, 0, .v vk), (11, 0, .v vk), (5, 0, .v (.bool true)), (0, 0, .v v)], [], 0, 0, 102, [], [], []⟩ a w'
def HlL4 (F : Fr) (ln : Nat) (v vk : Value) (m : Nat) (a : Act) (w' : World) : Prop :=
  ∃ k : Nat, m = ln - k ∧ k ≤ ln ∧ RepX F ⟨[(84, 0, .v (.int .i64 k)), (83, 0, .v (.int .i64 ln)), (82, 0, .v v), (11, 0, .v vk), (5, 0, .v (.bool true)), (0, 0, .v v)], [], 0, 0, 102, [], [], []⟩ a w'

set_option maxRecDepth 100000 in
set_option maxHeartbeats 64000000 in
/-- HistoryLast. -/
theorem histlast_ok (w : World) (v : Value) (L : List HEv) (n : Int) (hL : RdH (fun x => x < w.heap.size) w v L) (hn : L.length ≤ 1000000000000000) (hI : ∀ x ∈ L, InEv x) : Calls Try.prog 6 (denL [.v v, .v (.int .i64 n)]).toArray w (fun ev w' => ev = .returned (.bool true) ∧ Below w.heap.size w w') := by
  obtain ⟨ad, cp, rfl⟩ := hL.slice
  obtain ⟨ln, hln⟩ : ∃ ln, L.length = ln := ⟨_, rfl⟩
  rw [hln] at hL hn ⊢
  refine enter (F := frame0 w) Try.func6 rfl [.v (.slice ad ln cp), .v (.int .i64 n)] [] (by simp [Try.f6]) trivial (keeps0 w) fun a hr => ?_
  refine seg cfg6_ok mixed PanicFree.body 1000 [] [] hr (by first | trivial | exact HpRep.nil | assumption) (by kernel_rfl) fun s_ hs_ => ?_
  simp (maxSteps := 10000000) [SX.vc, SX.stop, SX.contS, SX.contB, SX.contW, SX.contR, SX.contD, SX.sxStep, SX.stepPure, SX.stepNew, SX.stepStore, SX.stepKeep, SX.guardIx, SX.evOp, SX.opd, SX.opds, SX.optOpd, SX.look, SX.putS, SX.gobs, SX.AllP, SX.leave, SX.lookC, SX.lookB, SX.lookT, SX.lookN, SX.findK, SX.evBuiltin, SX.ints, SX.foldI, SX.evBin, SX.evInt, SX.evStr, SX.evEq, SX.arith, SX.evLoad, SX.shapeUp, SX.evFieldAddr, SX.evField, SX.evIndexAddr, SX.evIndex, SX.evFill, SX.evBuild, SX.szs, SX.cellsV, SX.evNew, SX.evStore, SX.spliceL, SX.SV.cells, SX.evConv, SX.evSlice, SX.bnd, SX.evNil, SX.evUn, SX.evPick, SX.pickOpd, SX.popTo, SX.cnd, SX.env0, SX.TD.isAgg, SX.TD.isIface, SX.tails, SX.NotAgg, SX.evLookup, SX.evConvH, SX.evPtrEq, SX.isCells, SX.thaw, SX.frz, SX.fixB, SX.rootIx, SX.Froz, SX.frzStep, SX.fork, Go.Value.cells, Go.undef, cfg6, Try.f6]
  refine ⟨by (unfold SX.Ob; first | trivial | omega | ((try simp only [SX.inK]); (try simp [SX.den, SX.IsU8, SX.AllP, *]); (try omega))), ?_⟩
  intro a1 w1 hr1 _
  refine post_call 7 [] hr1 (by first | exact wanted_none rfl | exact wanted_zero (hr1.env.same rfl rfl rfl rfl) rfl (by simp) | exact wanted_zero (hr1.env.same rfl rfl rfl rfl) rfl (by simp [*])) rfl (callable 7 Try.func7) (live_ok w1) ?_
  rintro e2 w2 ⟨rfl, hb2⟩
  refine ⟨_, rfl, ?_⟩
  have h2 := hr1.ret hb2 16 (.v (.bool true)) rfl _ (hr1.all.below hb2) (by simp) rfl
  refine seg cfg6_ok mixed PanicFree.body 1000 [] [] h2 (by first | trivial | exact HpRep.nil | assumption) (by kernel_rfl) fun sS hsS => ?_
  simp (maxSteps := 10000000) [SX.vc, SX.stop, SX.contS, SX.contB, SX.contW, SX.contR, SX.contD, SX.sxStep, SX.stepPure, SX.stepNew, SX.stepStore, SX.stepKeep, SX.guardIx, SX.evOp, SX.opd, SX.opds, SX.optOpd, SX.look, SX.putS, SX.gobs, SX.AllP, SX.leave, SX.lookC, SX.lookB, SX.lookT, SX.lookN, SX.findK, SX.evBuiltin, SX.ints, SX.foldI, SX.evBin, SX.evInt, SX.evStr, SX.evEq, SX.arith, SX.evLoad, SX.shapeUp, SX.evFieldAddr, SX.evField, SX.evIndexAddr, SX.evIndex, SX.evFill, SX.evBuild, SX.szs, SX.cellsV, SX.evNew, SX.evStore, SX.spliceL, SX.SV.cells, SX.evConv, SX.evSlice, SX.bnd, SX.evNil, SX.evUn, SX.evPick, SX.pickOpd, SX.popTo, SX.cnd, SX.env0, SX.TD.isAgg, SX.TD.isIface, SX.tails, SX.NotAgg, SX.evLookup, SX.evConvH, SX.evPtrEq, SX.isCells, SX.thaw, SX.frz, SX.fixB, SX.rootIx, SX.Froz, SX.frzStep, SX.fork, Go.Value.cells, Go.undef, cfg6]
  refine ⟨by (unfold SX.Ob; first | trivial | omega | ((try simp only [SX.inK]); (try simp [SX.den, SX.IsU8, SX.AllP, *]); (try omega))), ?_⟩
  intro a3 w3 hr3 _
  refine post_call 8 [.sl 0 sS 0 0 1 1 1] hr3 (by first | exact wanted_none rfl | exact wanted_zero (hr3.env.same rfl rfl rfl rfl) rfl (by simp) | exact wanted_zero (hr3.env.same rfl rfl rfl rfl) rfl (by simp [*])) rfl (callable 8 Try.func8) (few1_ok w3 0 sS 1 _ ad ln cp _ hr3.all.1.1 (by simp [denL, den]) (by omega)) ?_
  rintro e4 w4 ⟨rfl, hb4⟩
  refine ⟨_, rfl, ?_⟩
  have h4 := hr3.ret hb4 19 (.v (.bool (decide (ln ≤ 399)))) rfl _ (hr3.all.below hb4) (by simp) rfl
  by_cases hF : ln ≤ 399
  rotate_left
  · refine seg cfg6_ok mixed PanicFree.body 1000 [true] [] h4 (by first | trivial | exact HpRep.nil | assumption) (by kernel_rfl) fun s_ hs_ => ?_
    simp (maxSteps := 10000000) [SX.vc, SX.stop, SX.contS, SX.contB, SX.contW, SX.contR, SX.contD, SX.sxStep, SX.stepPure, SX.stepNew, SX.stepStore, SX.stepKeep, SX.guardIx, SX.evOp, SX.opd, SX.opds, SX.optOpd, SX.look, SX.putS, SX.gobs, SX.AllP, SX.leave, SX.lookC, SX.lookB, SX.lookT, SX.lookN, SX.findK, SX.evBuiltin, SX.ints, SX.foldI, SX.evBin, SX.evInt, SX.evStr, SX.evEq, SX.arith, SX.evLoad, SX.shapeUp, SX.evFieldAddr, SX.evField, SX.evIndexAddr, SX.evIndex, SX.evFill, SX.evBuild, SX.szs, SX.cellsV, SX.evNew, SX.evStore, SX.spliceL, SX.SV.cells, SX.evConv, SX.evSlice, SX.bnd, SX.evNil, SX.evUn, SX.evPick, SX.pickOpd, SX.popTo, SX.cnd, SX.env0, SX.TD.isAgg, SX.TD.isIface, SX.tails, SX.NotAgg, SX.evLookup, SX.evConvH, SX.evPtrEq, SX.isCells, SX.thaw, SX.frz, SX.fixB, SX.rootIx, SX.Froz, SX.frzStep, SX.fork, Go.Value.cells, Go.undef, cfg6, hF]
    refine ⟨by (unfold SX.Ob; first | trivial | omega | ((try simp only [SX.inK]); (try simp [SX.den, SX.IsU8, SX.AllP, *]); (try omega))), ?_⟩
    intro a5 w5 hr5 _
    exact post_retn (end1 hr5 rfl rfl ⟨rfl, hr5.keeps.toBelow⟩).1
  refine seg cfg6_ok mixed PanicFree.body 1000 [false] [] h4 (by first | trivial | exact HpRep.nil | assumption) (by kernel_rfl) fun s_ hs_ => ?_
  simp (maxSteps := 10000000) [SX.vc, SX.stop, SX.contS, SX.contB, SX.contW, SX.contR, SX.contD, SX.sxStep, SX.stepPure, SX.stepNew, SX.stepStore, SX.stepKeep, SX.guardIx, SX.evOp, SX.opd, SX.opds, SX.optOpd, SX.look, SX.putS, SX.gobs, SX.AllP, SX.leave, SX.lookC, SX.lookB, SX.lookT, SX.lookN, SX.findK, SX.evBuiltin, SX.ints, SX.foldI, SX.evBin, SX.evInt, SX.evStr, SX.evEq, SX.arith, SX.evLoad, SX.shapeUp, SX.evFieldAddr, SX.evField, SX.evIndexAddr, SX.evIndex, SX.evFill, SX.evBuild, SX.szs, SX.cellsV, SX.evNew, SX.evStore, SX.spliceL, SX.SV.cells, SX.evConv, SX.evSlice, SX.bnd, SX.evNil, SX.evUn, SX.evPick, SX.pickOpd, SX.popTo, SX.cnd, SX.env0, SX.TD.isAgg, SX.TD.isIface, SX.tails, SX.NotAgg, SX.evLookup, SX.evConvH, SX.evPtrEq, SX.isCells, SX.thaw, SX.frz, SX.fixB, SX.rootIx, SX.Froz, SX.frzStep, SX.fork, Go.Value.cells, Go.undef, cfg6, hF]
  refine ⟨by (unfold SX.Ob; first | trivial | omega | ((try simp only [SX.inK]); (try simp [SX.den, SX.IsU8, SX.AllP, *]); (try omega))), ?_⟩
  intro a5 w5 hr5a _
  have hr5 := hr5a.see [] trivial
  have z5 : w.heap.size ≤ w5.heap.size := hr5.keeps.size
  refine post_call 13 [.v (.slice ad ln cp), .v (.int .i64 n)] hr5 (wanted_none rfl) rfl (callable 13 Try.func13) (last_ok w5 _ L n ((hL.below hr5.keeps.toBelow).mono fun x _ h => by omega) (by omega)) ?_
  rintro e6 w6 ⟨hcase, hb6⟩
  obtain ⟨x, okk, rfl, hc⟩ : ∃ x okk, e6 = .returned (den (.tu [.ag (evRow x), .v (.bool okk)])) ∧ ((okk = false ∧ lastIx L n ln = -1) ∨ (okk = true ∧ ∃ q : Nat, q < ln ∧ lastIx L n ln = q ∧ nth zeroEv L q = x)) := by
    rcases hcase with ⟨h1, h2⟩ | ⟨q, h1, h2, h3, h4, h5⟩
    · exact ⟨_, _, h1, .inl ⟨rfl, lastIx_none ln fun j hj => isW_iff.2 (h2 j (by omega))⟩⟩
    · refine ⟨_, _, h2, .inr ⟨rfl, q, by omega, lastIx_some (by unfold isW; rw [h3, h4]; simp) ln (by omega) fun j hj hjl => isW_iff.2 (h5 j hj (by omega)), rfl⟩⟩
  clear hcase
  refine ⟨_, rfl, ?_⟩
  have h6 := hr5.ret hb6 25 (.tu [.ag (evRow x), .v (.bool okk)]) rfl _ (hr5.all.below hb6) (by simp) rfl
  refine seg cfg6_ok mixed PanicFree.body 1000 [] [] h6 (by first | trivial | exact HpRep.nil | assumption) (by kernel_rfl) fun cX hcX => ?_
  simp (maxSteps := 10000000) [SX.vc, SX.stop, SX.contS, SX.contB, SX.contW, SX.contR, SX.contD, SX.sxStep, SX.stepPure, SX.stepNew, SX.stepStore, SX.stepKeep, SX.guardIx, SX.evOp, SX.opd, SX.opds, SX.optOpd, SX.look, SX.putS, SX.gobs, SX.AllP, SX.leave, SX.lookC, SX.lookB, SX.lookT, SX.lookN, SX.findK, SX.evBuiltin, SX.ints, SX.foldI, SX.evBin, SX.evInt, SX.evStr, SX.evEq, SX.arith, SX.evLoad, SX.shapeUp, SX.evFieldAddr, SX.evField, SX.evIndexAddr, SX.evIndex, SX.evFill, SX.evBuild, SX.szs, SX.cellsV, SX.evNew, SX.evStore, SX.spliceL, SX.SV.cells, SX.evConv, SX.evSlice, SX.bnd, SX.evNil, SX.evUn, SX.evPick, SX.pickOpd, SX.popTo, SX.cnd, SX.env0, SX.TD.isAgg, SX.TD.isIface, SX.tails, SX.NotAgg, SX.evLookup, SX.evConvH, SX.evPtrEq, SX.isCells, SX.thaw, SX.frz, SX.fixB, SX.rootIx, SX.Froz, SX.frzStep, SX.fork, Go.Value.cells, Go.undef, cfg6, evRow]
  refine ⟨by (unfold SX.Ob; first | trivial | omega | ((try simp only [SX.inK]); (try simp [SX.den, SX.IsU8, SX.AllP, *]); (try omega))), ?_⟩
  intro a7 w7 hr7 _
  have z7 : w.heap.size ≤ w7.heap.size := hr7.keeps.size
  have z6 : w.heap.size ≤ w6.heap.size := h6.keeps.size
  refine post_loop (HlL0 (frame0 w) L n ln x okk (.slice ad ln cp) cX) _ ⟨0, rfl, by omega, hr7.re (by simp [envTo, SX.look, lastIx]) hr7.all rfl rfl⟩ ?_
  clear hr hr1 h2 hr3 h4 hr5a hr5 h6 hr7
  rintro m a8 w8 ⟨k, rfl, hk, hr8⟩
  have hA8 := hr8.all
  have hL8 := hL.below hr8.keeps.toBelow
  have hcX : w.heap.size ≤ cX := by
    rcases hA8.1.2.1 rfl with h | h
    · exact h
    · cases h
  by_cases hlt : k < ln
  · obtain ⟨b, o0, cap, u, fz, hP, hv, hrep⟩ := hL8.opn (show k < L.length by omega)
    rw [hln] at hv hrep
    cases hv
    obtain ⟨y, hy⟩ : ∃ y, nth zeroEv L k = y := ⟨_, rfl⟩
    have hlk : k < L.length := by omega
    have hnx : lastIx L n (k + 1) = if isW n y then (k : Int) else lastIx L n k := by
      show (if isW n (nth zeroEv L k) then (k : Int) else lastIx L n k) = _
      rw [hy]
    obtain ⟨lk, hlkk⟩ : ∃ lk, lastIx L n k = lk := ⟨_, rfl⟩
    rw [hlkk] at hr8 hnx
    have h9 := (hr8.top 28 (.sl 1 b o0 0 ln cp 5) rfl (by simp [den])).see [(cX, true, .cells (evL x) 28), (b, false, .arr o0 ln (fun j => evRow (nth zeroEv L j)) 5 u fz)] ⟨⟨hA8.1.1, hA8.1.2.1, by simp; omega⟩, HpAll.one hrep⟩
    by_cases hA : y.lba = n
    · cases hrd : y.rd with
      | false =>
        refine seg cfg6_ok mixed PanicFree.body 1000 [true, true] [(39, true)] h9 (by first | trivial | exact HpRep.nil | assumption) (by kernel_rfl) fun s_ hs_ => ?_
        simp (maxSteps := 10000000) [SX.vc, SX.stop, SX.contS, SX.contB, SX.contW, SX.contR, SX.contD, SX.sxStep, SX.stepPure, SX.stepNew, SX.stepStore, SX.stepKeep, SX.guardIx, SX.evOp, SX.opd, SX.opds, SX.optOpd, SX.look, SX.putS, SX.gobs, SX.AllP, SX.leave, SX.lookC, SX.lookB, SX.lookT, SX.lookN, SX.findK, SX.evBuiltin, SX.ints, SX.foldI, SX.evBin, SX.evInt, SX.evStr, SX.evEq, SX.arith, SX.evLoad, SX.shapeUp, SX.evFieldAddr, SX.evField, SX.evIndexAddr, SX.evIndex, SX.evFill, SX.evBuild, SX.szs, SX.cellsV, SX.evNew, SX.evStore, SX.spliceL, SX.SV.cells, SX.evConv, SX.evSlice, SX.bnd, SX.evNil, SX.evUn, SX.evPick, SX.pickOpd, SX.popTo, SX.cnd, SX.env0, SX.TD.isAgg, SX.TD.isIface, SX.tails, SX.NotAgg, SX.evLookup, SX.evConvH, SX.evPtrEq, SX.isCells, SX.thaw, SX.frz, SX.fixB, SX.rootIx, SX.Froz, SX.frzStep, SX.fork, Go.Value.cells, Go.undef, cfg6, evRow, evL, hy, hA, hrd, hlt]
        refine ⟨by (unfold SX.Ob; first | trivial | omega | ((try simp only [SX.inK]); (try simp [SX.den, SX.IsU8, SX.AllP, *]); (try omega))), ?_⟩
        intro a10 w10 hr10 _
        have e : isW n y = true := by unfold isW; rw [hA, hrd]; simp
        rw [e] at hnx
        exact post_rnd (ln - (k + 1)) (by omega) ⟨k + 1, rfl, by omega, hr10.re (by simp [envTo, SX.look, den, hnx]) ⟨⟨hr10.all.1.1, hr10.all.1.2.1, by simp⟩, trivial⟩ rfl rfl⟩
      | true =>
        refine seg cfg6_ok mixed PanicFree.body 1000 [true, false] [(39, true)] h9 (by first | trivial | exact HpRep.nil | assumption) (by kernel_rfl) fun s_ hs_ => ?_
        simp (maxSteps := 10000000) [SX.vc, SX.stop, SX.contS, SX.contB, SX.contW, SX.contR, SX.contD, SX.sxStep, SX.stepPure, SX.stepNew, SX.stepStore, SX.stepKeep, SX.guardIx, SX.evOp, SX.opd, SX.opds, SX.optOpd, SX.look, SX.putS, SX.gobs, SX.AllP, SX.leave, SX.lookC, SX.lookB, SX.lookT, SX.lookN, SX.findK, SX.evBuiltin, SX.ints, SX.foldI, SX.evBin, SX.evInt, SX.evStr, SX.evEq, SX.arith, SX.evLoad, SX.shapeUp, SX.evFieldAddr, SX.evField, SX.evIndexAddr, SX.evIndex, SX.evFill, SX.evBuild, SX.szs, SX.cellsV, SX.evNew, SX.evStore, SX.spliceL, SX.SV.cells, SX.evConv, SX.evSlice, SX.bnd, SX.evNil, SX.evUn, SX.evPick, SX.pickOpd, SX.popTo, SX.cnd, SX.env0, SX.TD.isAgg, SX.TD.isIface, SX.tails, SX.NotAgg, SX.evLookup, SX.evConvH, SX.evPtrEq, SX.isCells, SX.thaw, SX.frz, SX.fixB, SX.rootIx, SX.Froz, SX.frzStep, SX.fork, Go.Value.cells, Go.undef, cfg6, evRow, evL, hy, hA, hrd, hlt]
        refine ⟨by (unfold SX.Ob; first | trivial | omega | ((try simp only [SX.inK]); (try simp [SX.den, SX.IsU8, SX.AllP, *]); (try omega))), ?_⟩
        intro a10 w10 hr10 _
        have e : isW n y = false := by unfold isW; rw [hA, hrd]; simp
        rw [e] at hnx
        exact post_rnd (ln - (k + 1)) (by omega) ⟨k + 1, rfl, by omega, hr10.re (by simp [envTo, SX.look, den, hnx]) ⟨⟨hr10.all.1.1, hr10.all.1.2.1, by simp⟩, trivial⟩ rfl rfl⟩
    · refine seg cfg6_ok mixed PanicFree.body 1000 [true, false] [(39, false)] h9 (by first | trivial | exact HpRep.nil | assumption) (by kernel_rfl) fun s_ hs_ => ?_
      simp (maxSteps := 10000000) [SX.vc, SX.stop, SX.contS, SX.contB, SX.contW, SX.contR, SX.contD, SX.sxStep, SX.stepPure, SX.stepNew, SX.stepStore, SX.stepKeep, SX.guardIx, SX.evOp, SX.opd, SX.opds, SX.optOpd, SX.look, SX.putS, SX.gobs, SX.AllP, SX.leave, SX.lookC, SX.lookB, SX.lookT, SX.lookN, SX.findK, SX.evBuiltin, SX.ints, SX.foldI, SX.evBin, SX.evInt, SX.evStr, SX.evEq, SX.arith, SX.evLoad, SX.shapeUp, SX.evFieldAddr, SX.evField, SX.evIndexAddr, SX.evIndex, SX.evFill, SX.evBuild, SX.szs, SX.cellsV, SX.evNew, SX.evStore, SX.spliceL, SX.SV.cells, SX.evConv, SX.evSlice, SX.bnd, SX.evNil, SX.evUn, SX.evPick, SX.pickOpd, SX.popTo, SX.cnd, SX.env0, SX.TD.isAgg, SX.TD.isIface, SX.tails, SX.NotAgg, SX.evLookup, SX.evConvH, SX.evPtrEq, SX.isCells, SX.thaw, SX.frz, SX.fixB, SX.rootIx, SX.Froz, SX.frzStep, SX.fork, Go.Value.cells, Go.undef, cfg6, evRow, evL, hy, hA, hlt]
      refine ⟨by (unfold SX.Ob; first | trivial | omega | ((try simp only [SX.inK]); (try simp [SX.den, SX.IsU8, SX.AllP, *]); (try omega))), ?_⟩
      intro a10 w10 hr10 _
      have e : isW n y = false := by unfold isW; simp [hA]
      rw [e] at hnx
      exact post_rnd (ln - (k + 1)) (by omega) ⟨k + 1, rfl, by omega, hr10.re (by simp [envTo, SX.look, den, hnx]) ⟨⟨hr10.all.1.1, hr10.all.1.2.1, by simp⟩, trivial⟩ rfl rfl⟩
  obtain rfl : k = ln := by omega
  have hlt' : ¬ (k : Int) < (k : Int) := by omega
  refine seg cfg6_ok mixed PanicFree.body 8 [false] [] hr8 (by first | trivial | exact HpRep.nil | assumption) (by kernel_rfl) fun s_ hs_ => ?_
  simp (maxSteps := 10000000) [SX.vc, SX.stop, SX.contS, SX.contB, SX.contW, SX.contR, SX.contD, SX.sxStep, SX.stepPure, SX.stepNew, SX.stepStore, SX.stepKeep, SX.guardIx, SX.evOp, SX.opd, SX.opds, SX.optOpd, SX.look, SX.putS, SX.gobs, SX.AllP, SX.leave, SX.lookC, SX.lookB, SX.lookT, SX.lookN, SX.findK, SX.evBuiltin, SX.ints, SX.foldI, SX.evBin, SX.evInt, SX.evStr, SX.evEq, SX.arith, SX.evLoad, SX.shapeUp, SX.evFieldAddr, SX.evField, SX.evIndexAddr, SX.evIndex, SX.evFill, SX.evBuild, SX.szs, SX.cellsV, SX.evNew, SX.evStore, SX.spliceL, SX.SV.cells, SX.evConv, SX.evSlice, SX.bnd, SX.evNil, SX.evUn, SX.evPick, SX.pickOpd, SX.popTo, SX.cnd, SX.env0, SX.TD.isAgg, SX.TD.isIface, SX.tails, SX.NotAgg, SX.evLookup, SX.evConvH, SX.evPtrEq, SX.isCells, SX.thaw, SX.frz, SX.fixB, SX.rootIx, SX.Froz, SX.frzStep, SX.fork, Go.Value.cells, Go.undef, cfg6, hlt']
  refine ⟨by (unfold SX.Ob; first | trivial | omega | ((try simp only [SX.inK]); (try simp [SX.den, SX.IsU8, SX.AllP, *]); (try omega))), ?_⟩
  intro a9 w9 hr9 _
  refine post_cut (HlJ (frame0 w) (.slice ad k cp)) 1 rfl ?_ fun a_ w_ hJ => ?_
  · rcases hc with ⟨rfl, h1⟩ | ⟨rfl, q, h1, h2, h3⟩
    · have h9 := (hr9.top 8 (.v (.int .i64 (-1))) rfl (by rw [h1])).see [] trivial
      refine seg cfg6_ok mixed PanicFree.body 1000 [false] [(50, false), (52, false)] h9 (by first | trivial | exact HpRep.nil | assumption) (by kernel_rfl) fun s_ hs_ => ?_
      simp (maxSteps := 10000000) [SX.vc, SX.stop, SX.contS, SX.contB, SX.contW, SX.contR, SX.contD, SX.sxStep, SX.stepPure, SX.stepNew, SX.stepStore, SX.stepKeep, SX.guardIx, SX.evOp, SX.opd, SX.opds, SX.optOpd, SX.look, SX.putS, SX.gobs, SX.AllP, SX.leave, SX.lookC, SX.lookB, SX.lookT, SX.lookN, SX.findK, SX.evBuiltin, SX.ints, SX.foldI, SX.evBin, SX.evInt, SX.evStr, SX.evEq, SX.arith, SX.evLoad, SX.shapeUp, SX.evFieldAddr, SX.evField, SX.evIndexAddr, SX.evIndex, SX.evFill, SX.evBuild, SX.szs, SX.cellsV, SX.evNew, SX.evStore, SX.spliceL, SX.SV.cells, SX.evConv, SX.evSlice, SX.bnd, SX.evNil, SX.evUn, SX.evPick, SX.pickOpd, SX.popTo, SX.cnd, SX.env0, SX.TD.isAgg, SX.TD.isIface, SX.tails, SX.NotAgg, SX.evLookup, SX.evConvH, SX.evPtrEq, SX.isCells, SX.thaw, SX.frz, SX.fixB, SX.rootIx, SX.Froz, SX.frzStep, SX.fork, Go.Value.cells, Go.undef, cfg6]
      refine ⟨by (unfold SX.Ob; first | trivial | omega | ((try simp only [SX.inK]); (try simp [SX.den, SX.IsU8, SX.AllP, *]); (try omega))), ?_⟩
      intro a10 w10 hr10 _
      exact post_inv (hr10.re (by simp [envTo, SX.look]) trivial rfl rfl)
    · have hA9 := hr9.all
      obtain ⟨b, o0, cap, u, fz, hP, hv, hrep⟩ := (hL.below hr9.keeps.toBelow).opn (show q < L.length by omega)
      rw [hln] at hv hrep
      cases hv
      have h9 := ((hr9.top 8 (.v (.int .i64 q)) rfl (by rw [h2])).top 0 (.sl 1 b o0 0 k cp 5) rfl (by simp [den])).see [(cX, true, .cells (evL x) 28), (b, false, .arr o0 k (fun j => evRow (nth zeroEv L j)) 5 u fz)] ⟨⟨hA9.1.1, hA9.1.2.1, by simp; omega⟩, HpAll.one hrep⟩
      have hqn : ¬ (q : Int) < 0 := by omega
      have hq0 : (0 : Int) ≤ (q : Int) := by omega
      refine seg cfg6_ok mixed PanicFree.body 1000 [] [(50, false), (52, true)] h9 (by first | trivial | exact HpRep.nil | assumption) (by kernel_rfl) fun s_ hs_ => ?_
      simp (maxSteps := 10000000) [SX.vc, SX.stop, SX.contS, SX.contB, SX.contW, SX.contR, SX.contD, SX.sxStep, SX.stepPure, SX.stepNew, SX.stepStore, SX.stepKeep, SX.guardIx, SX.evOp, SX.opd, SX.opds, SX.optOpd, SX.look, SX.putS, SX.gobs, SX.AllP, SX.leave, SX.lookC, SX.lookB, SX.lookT, SX.lookN, SX.findK, SX.evBuiltin, SX.ints, SX.foldI, SX.evBin, SX.evInt, SX.evStr, SX.evEq, SX.arith, SX.evLoad, SX.shapeUp, SX.evFieldAddr, SX.evField, SX.evIndexAddr, SX.evIndex, SX.evFill, SX.evBuild, SX.szs, SX.cellsV, SX.evNew, SX.evStore, SX.spliceL, SX.SV.cells, SX.evConv, SX.evSlice, SX.bnd, SX.evNil, SX.evUn, SX.evPick, SX.pickOpd, SX.popTo, SX.cnd, SX.env0, SX.TD.isAgg, SX.TD.isIface, SX.tails, SX.NotAgg, SX.evLookup, SX.evConvH, SX.evPtrEq, SX.isCells, SX.thaw, SX.frz, SX.fixB, SX.rootIx, SX.Froz, SX.frzStep, SX.fork, Go.Value.cells, Go.undef, cfg6, evRow, evL, h1, h3, hqn, hq0]
      refine ⟨by (unfold SX.Ob; first | trivial | omega | ((try simp only [SX.inK]); (try simp [SX.den, SX.IsU8, SX.AllP, *]); (try omega))), ?_⟩
      intro a10 w10 hr10 ht10
      refine post_eqQ (C := cfg6) cfg6_ok (ok := fun t => t == 28) ok28 hr10 ht10 rfl rfl rfl rfl rfl (by kernel_rfl) (b := decide (x = x)) (eqEv x x) (by first | exact wanted_none rfl | exact wanted_zero (hr10.env.same rfl rfl rfl rfl) rfl (by simp)) rfl (by simp) rfl fun a_ hr11 => ?_
      simp only [SX.eqR] at hr11
      have ht11 := ht10
      refine seg cfg6_ok mixed PanicFree.body 1000 [false] [(50, false), (52, true)] hr11 (by first | trivial | exact HpRep.nil | assumption) (by kernel_rfl) fun s_ hs_ => ?_
      simp (maxSteps := 10000000) [SX.vc, SX.stop, SX.contS, SX.contB, SX.contW, SX.contR, SX.contD, SX.sxStep, SX.stepPure, SX.stepNew, SX.stepStore, SX.stepKeep, SX.guardIx, SX.evOp, SX.opd, SX.opds, SX.optOpd, SX.look, SX.putS, SX.gobs, SX.AllP, SX.leave, SX.lookC, SX.lookB, SX.lookT, SX.lookN, SX.findK, SX.evBuiltin, SX.ints, SX.foldI, SX.evBin, SX.evInt, SX.evStr, SX.evEq, SX.arith, SX.evLoad, SX.shapeUp, SX.evFieldAddr, SX.evField, SX.evIndexAddr, SX.evIndex, SX.evFill, SX.evBuild, SX.szs, SX.cellsV, SX.evNew, SX.evStore, SX.spliceL, SX.SV.cells, SX.evConv, SX.evSlice, SX.bnd, SX.evNil, SX.evUn, SX.evPick, SX.pickOpd, SX.popTo, SX.cnd, SX.env0, SX.TD.isAgg, SX.TD.isIface, SX.tails, SX.NotAgg, SX.evLookup, SX.evConvH, SX.evPtrEq, SX.isCells, SX.thaw, SX.frz, SX.fixB, SX.rootIx, SX.Froz, SX.frzStep, SX.fork, Go.Value.cells, Go.undef, cfg6]
      refine ⟨by (unfold SX.Ob; first | trivial | omega | ((try simp only [SX.inK]); (try simp [SX.den, SX.IsU8, SX.AllP, *]); (try omega))), ?_⟩
      intro a12 w12 hr12 _
      exact post_inv (hr12.re (by simp [envTo, SX.look, den]) trivial rfl rfl)
  clear hr8 hr9 hA8 hL8 hc
  have hr8 : RepX (frame0 w) ⟨[(5, 0, .v (.bool true)), (0, 0, .v (.slice ad k cp))], [], 0, 0, 102, [], [], []⟩ a_ w_ := hJ
  refine seg cfg6_ok mixed PanicFree.body 1000 [] [] hr8 (by first | trivial | exact HpRep.nil | assumption) (by kernel_rfl) fun s_ hs_ => ?_
  simp (maxSteps := 10000000) [SX.vc, SX.stop, SX.contS, SX.contB, SX.contW, SX.contR, SX.contD, SX.sxStep, SX.stepPure, SX.stepNew, SX.stepStore, SX.stepKeep, SX.guardIx, SX.evOp, SX.opd, SX.opds, SX.optOpd, SX.look, SX.putS, SX.gobs, SX.AllP, SX.leave, SX.lookC, SX.lookB, SX.lookT, SX.lookN, SX.findK, SX.evBuiltin, SX.ints, SX.foldI, SX.evBin, SX.evInt, SX.evStr, SX.evEq, SX.arith, SX.evLoad, SX.shapeUp, SX.evFieldAddr, SX.evField, SX.evIndexAddr, SX.evIndex, SX.evFill, SX.evBuild, SX.szs, SX.cellsV, SX.evNew, SX.evStore, SX.spliceL, SX.SV.cells, SX.evConv, SX.evSlice, SX.bnd, SX.evNil, SX.evUn, SX.evPick, SX.pickOpd, SX.popTo, SX.cnd, SX.env0, SX.TD.isAgg, SX.TD.isIface, SX.tails, SX.NotAgg, SX.evLookup, SX.evConvH, SX.evPtrEq, SX.isCells, SX.thaw, SX.frz, SX.fixB, SX.rootIx, SX.Froz, SX.frzStep, SX.fork, Go.Value.cells, Go.undef, cfg6]
  refine ⟨by (unfold SX.Ob; first | trivial | omega | ((try simp only [SX.inK]); (try simp [SX.den, SX.IsU8, SX.AllP, *]); (try omega))), ?_⟩
  intro a9 w9 hr9 _
  have z9 : w.heap.size ≤ w9.heap.size := hr9.keeps.size
  refine post_call 12 [.v (.slice ad k cp)] hr9 (by first | exact wanted_none rfl | exact wanted_zero (hr9.env.same rfl rfl rfl rfl) rfl (by simp) | exact wanted_zero (hr9.env.same rfl rfl rfl rfl) rfl (by simp [*])) rfl (callable 12 Try.func12) (blocks_ok w9 _ L ((hL.below hr9.keeps.toBelow).mono fun x _ h => by omega) (by omega) hI) ?_
  rintro e10 w10 ⟨vk, K, rfl, hK, hpw, hmem, hb10⟩
  refine ⟨_, rfl, ?_⟩
  have h10 := hr9.ret hb10 62 (.v vk) rfl _ (hr9.all.below hb10) (by simp) rfl
  obtain ⟨adk, nk, cpk, rfl, hnk⟩ : ∃ ad n cp, vk = Value.slice ad n cp ∧ n = K.length := by
    obtain ⟨x1, x2, h1⟩ := hK.slice
    exact ⟨_, _, _, h1, rfl⟩
  have hkl : nk ≤ k := by
    have h1 := nodup_le K (L.map HEv.lba) (hpw.imp fun h => by omega) fun x hx => by
      obtain ⟨e, he, h2⟩ := (hmem x).1 hx
      exact List.mem_map.2 ⟨e, he, h2⟩
    rw [List.length_map] at h1
    omega
  have hK10 := hK.mono (P' := fun x => x < w10.heap.size) fun x h1 _ => h1
  have hL10 := (hL.below h10.keeps.toBelow).mono (P' := fun x => x < w10.heap.size) fun x h1 _ => h1
  refine seg cfg6_ok mixed PanicFree.body 1000 [] [] h10.rebase (by first | trivial | exact HpRep.nil | assumption) (by kernel_rfl) fun s_ hs_ => ?_
  simp (maxSteps := 10000000) [SX.vc, SX.stop, SX.contS, SX.contB, SX.contW, SX.contR, SX.contD, SX.sxStep, SX.stepPure, SX.stepNew, SX.stepStore, SX.stepKeep, SX.guardIx, SX.evOp, SX.opd, SX.opds, SX.optOpd, SX.look, SX.putS, SX.gobs, SX.AllP, SX.leave, SX.lookC, SX.lookB, SX.lookT, SX.lookN, SX.findK, SX.evBuiltin, SX.ints, SX.foldI, SX.evBin, SX.evInt, SX.evStr, SX.evEq, SX.arith, SX.evLoad, SX.shapeUp, SX.evFieldAddr, SX.evField, SX.evIndexAddr, SX.evIndex, SX.evFill, SX.evBuild, SX.szs, SX.cellsV, SX.evNew, SX.evStore, SX.spliceL, SX.SV.cells, SX.evConv, SX.evSlice, SX.bnd, SX.evNil, SX.evUn, SX.evPick, SX.pickOpd, SX.popTo, SX.cnd, SX.env0, SX.TD.isAgg, SX.TD.isIface, SX.tails, SX.NotAgg, SX.evLookup, SX.evConvH, SX.evPtrEq, SX.isCells, SX.thaw, SX.frz, SX.fixB, SX.rootIx, SX.Froz, SX.frzStep, SX.fork, Go.Value.cells, Go.undef, cfg6]
  refine ⟨by (unfold SX.Ob; first | trivial | omega | ((try simp only [SX.inK]); (try simp [SX.den, SX.IsU8, SX.AllP, *]); (try omega))), ?_⟩
  intro a11 w11 hr11 _
  refine post_loop (HlL2 (frameAt w10 []) k nk (.slice ad k cp) (.slice adk nk cpk)) _ ⟨0, rfl, by omega, hr11.re (by simp [envTo, SX.look]) trivial rfl rfl⟩ ?_
  clear hr11
  rintro m a12 w12 ⟨i, rfl, hi, hr12⟩
  have hK12 := hK10.keep hr12.keeps (by simp [frameAt, mutB])
  by_cases hlt2 : i < nk
  · obtain ⟨bk, ok, capk, uk, fzk, hPk, hvk, hrepk⟩ := hK12.opn (show i < K.length by omega)
    rw [← hnk] at hvk hrepk
    cases hvk
    obtain ⟨x1, hx1⟩ : ∃ x1, nth (0 : Int) K i = x1 := ⟨_, rfl⟩
    have h13 := ((hr12.top 63 (.sl 0 bk ok 0 nk cpk 1) rfl (by simp [den])).top 11 (.sl 0 bk ok 0 nk cpk 1) rfl (by simp [den])).see [(bk, false, .arr ok nk (fun j => intR (nth (0 : Int) K j)) 1 uk fzk)] (HpAll.one hrepk)
    rcases i with _ | i
    · refine seg cfg6_ok mixed PanicFree.body 1000 [true, false] [(72, false)] h13 (by first | trivial | exact HpRep.nil | assumption) (by kernel_rfl) fun s_ hs_ => ?_
      simp (maxSteps := 10000000) [SX.vc, SX.stop, SX.contS, SX.contB, SX.contW, SX.contR, SX.contD, SX.sxStep, SX.stepPure, SX.stepNew, SX.stepStore, SX.stepKeep, SX.guardIx, SX.evOp, SX.opd, SX.opds, SX.optOpd, SX.look, SX.putS, SX.gobs, SX.AllP, SX.leave, SX.lookC, SX.lookB, SX.lookT, SX.lookN, SX.findK, SX.evBuiltin, SX.ints, SX.foldI, SX.evBin, SX.evInt, SX.evStr, SX.evEq, SX.arith, SX.evLoad, SX.shapeUp, SX.evFieldAddr, SX.evField, SX.evIndexAddr, SX.evIndex, SX.evFill, SX.evBuild, SX.szs, SX.cellsV, SX.evNew, SX.evStore, SX.spliceL, SX.SV.cells, SX.evConv, SX.evSlice, SX.bnd, SX.evNil, SX.evUn, SX.evPick, SX.pickOpd, SX.popTo, SX.cnd, SX.env0, SX.TD.isAgg, SX.TD.isIface, SX.tails, SX.NotAgg, SX.evLookup, SX.evConvH, SX.evPtrEq, SX.isCells, SX.thaw, SX.frz, SX.fixB, SX.rootIx, SX.Froz, SX.frzStep, SX.fork, Go.Value.cells, Go.undef, cfg6, intR, hx1, hlt2]
      refine ⟨by (unfold SX.Ob; first | trivial | omega | ((try simp only [SX.inK]); (try simp [SX.den, SX.IsU8, SX.AllP, *]); (try omega))), ?_⟩
      intro a14 w14 hr14 _
      exact post_rnd (nk - (0 + 1)) (by omega) ⟨0 + 1, rfl, by omega, hr14.re (by simp [envTo, SX.look, den]) trivial rfl rfl⟩
    · obtain ⟨x0, hx0⟩ : ∃ x0, nth (0 : Int) K i = x0 := ⟨_, rfl⟩
      have hlt01 : ¬ x1 ≤ x0 := by
        have h := List.pairwise_iff_getElem.1 hpw i (i + 1) (by omega) (by omega) (by omega)
        rw [nth_lt (by omega)] at hx0
        rw [nth_lt (by omega)] at hx1
        rw [hx0, hx1] at h
        omega
      have hik : i < nk := by omega
      have hi1 : (0 : Int) < (i : Int) + 1 := by omega
      refine seg cfg6_ok mixed PanicFree.body 1000 [true, false] [(72, true)] h13 (by first | trivial | exact HpRep.nil | assumption) (by kernel_rfl) fun s_ hs_ => ?_
      simp (maxSteps := 10000000) [SX.vc, SX.stop, SX.contS, SX.contB, SX.contW, SX.contR, SX.contD, SX.sxStep, SX.stepPure, SX.stepNew, SX.stepStore, SX.stepKeep, SX.guardIx, SX.evOp, SX.opd, SX.opds, SX.optOpd, SX.look, SX.putS, SX.gobs, SX.AllP, SX.leave, SX.lookC, SX.lookB, SX.lookT, SX.lookN, SX.findK, SX.evBuiltin, SX.ints, SX.foldI, SX.evBin, SX.evInt, SX.evStr, SX.evEq, SX.arith, SX.evLoad, SX.shapeUp, SX.evFieldAddr, SX.evField, SX.evIndexAddr, SX.evIndex, SX.evFill, SX.evBuild, SX.szs, SX.cellsV, SX.evNew, SX.evStore, SX.spliceL, SX.SV.cells, SX.evConv, SX.evSlice, SX.bnd, SX.evNil, SX.evUn, SX.evPick, SX.pickOpd, SX.popTo, SX.cnd, SX.env0, SX.TD.isAgg, SX.TD.isIface, SX.tails, SX.NotAgg, SX.evLookup, SX.evConvH, SX.evPtrEq, SX.isCells, SX.thaw, SX.frz, SX.fixB, SX.rootIx, SX.Froz, SX.frzStep, SX.fork, Go.Value.cells, Go.undef, cfg6, intR, hx0, hx1, hlt2, hlt01, hik, hi1]
      refine ⟨by (unfold SX.Ob; first | trivial | omega | ((try simp only [SX.inK]); (try simp [SX.den, SX.IsU8, SX.AllP, *]); (try omega))), ?_⟩
      intro a14 w14 hr14 _
      exact post_rnd (nk - (i + 1 + 1)) (by omega) ⟨i + 1 + 1, rfl, by omega, hr14.re (by simp [envTo, SX.look, den]) trivial rfl rfl⟩
  obtain rfl : i = nk := by omega
  have hlt2' : ¬ (i : Int) < (i : Int) := by omega
  refine seg cfg6_ok mixed PanicFree.body 1000 [false] [] hr12 (by first | trivial | exact HpRep.nil | assumption) (by kernel_rfl) fun s_ hs_ => ?_
  simp (maxSteps := 10000000) [SX.vc, SX.stop, SX.contS, SX.contB, SX.contW, SX.contR, SX.contD, SX.sxStep, SX.stepPure, SX.stepNew, SX.stepStore, SX.stepKeep, SX.guardIx, SX.evOp, SX.opd, SX.opds, SX.optOpd, SX.look, SX.putS, SX.gobs, SX.AllP, SX.leave, SX.lookC, SX.lookB, SX.lookT, SX.lookN, SX.findK, SX.evBuiltin, SX.ints, SX.foldI, SX.evBin, SX.evInt, SX.evStr, SX.evEq, SX.arith, SX.evLoad, SX.shapeUp, SX.evFieldAddr, SX.evField, SX.evIndexAddr, SX.evIndex, SX.evFill, SX.evBuild, SX.szs, SX.cellsV, SX.evNew, SX.evStore, SX.spliceL, SX.SV.cells, SX.evConv, SX.evSlice, SX.bnd, SX.evNil, SX.evUn, SX.evPick, SX.pickOpd, SX.popTo, SX.cnd, SX.env0, SX.TD.isAgg, SX.TD.isIface, SX.tails, SX.NotAgg, SX.evLookup, SX.evConvH, SX.evPtrEq, SX.isCells, SX.thaw, SX.frz, SX.fixB, SX.rootIx, SX.Froz, SX.frzStep, SX.fork, Go.Value.cells, Go.undef, cfg6, hlt2']
  refine ⟨by (unfold SX.Ob; first | trivial | omega | ((try simp only [SX.inK]); (try simp [SX.den, SX.IsU8, SX.AllP, *]); (try omega))), ?_⟩
  intro a13 w13 hr13 _
  refine post_loop (HlL4 (frameAt w10 []) k (.slice ad k cp) (.slice adk i cpk)) _ ⟨0, rfl, by omega, hr13.re (by simp [envTo, SX.look]) trivial rfl rfl⟩ ?_
  clear hr12 hr13 hK12
  rintro m a14 w14 ⟨j, rfl, hj, hr14⟩
  have hK14 := hK10.keep hr14.keeps (by simp [frameAt, mutB])
  have hL14 := hL10.keep hr14.keeps (by simp [frameAt, mutB])
  by_cases hlt3 : j < k
  · obtain ⟨b, o0, cap, u, fz, hP, hv, hrep⟩ := hL14.opn (show j < L.length by omega)
    rw [hln] at hv hrep
    cases hv
    obtain ⟨y, hy⟩ : ∃ y, nth zeroEv L j = y := ⟨_, rfl⟩
    have hyL : y ∈ L := by
      rw [nth_lt (by omega)] at hy
      exact hy ▸ List.getElem_mem _
    have h15 := (hr14.top 82 (.sl 0 b o0 0 k cp 5) rfl (by simp [den])).see [(b, false, .arr o0 k (fun j => evRow (nth zeroEv L j)) 5 u fz)] (HpAll.one hrep)
    refine seg cfg6_ok mixed PanicFree.body 1000 [true] [] h15.rebase (by first | trivial | exact HpRep.nil | assumption) (by kernel_rfl) fun s_ hs_ => ?_
    simp (maxSteps := 10000000) [SX.vc, SX.stop, SX.contS, SX.contB, SX.contW, SX.contR, SX.contD, SX.sxStep, SX.stepPure, SX.stepNew, SX.stepStore, SX.stepKeep, SX.guardIx, SX.evOp, SX.opd, SX.opds, SX.optOpd, SX.look, SX.putS, SX.gobs, SX.AllP, SX.leave, SX.lookC, SX.lookB, SX.lookT, SX.lookN, SX.findK, SX.evBuiltin, SX.ints, SX.foldI, SX.evBin, SX.evInt, SX.evStr, SX.evEq, SX.arith, SX.evLoad, SX.shapeUp, SX.evFieldAddr, SX.evField, SX.evIndexAddr, SX.evIndex, SX.evFill, SX.evBuild, SX.szs, SX.cellsV, SX.evNew, SX.evStore, SX.spliceL, SX.SV.cells, SX.evConv, SX.evSlice, SX.bnd, SX.evNil, SX.evUn, SX.evPick, SX.pickOpd, SX.popTo, SX.cnd, SX.env0, SX.TD.isAgg, SX.TD.isIface, SX.tails, SX.NotAgg, SX.evLookup, SX.evConvH, SX.evPtrEq, SX.isCells, SX.thaw, SX.frz, SX.fixB, SX.rootIx, SX.Froz, SX.frzStep, SX.fork, Go.Value.cells, Go.undef, cfg6, evRow, hy, hlt3]
    refine ⟨by (unfold SX.Ob; first | trivial | omega | ((try simp only [SX.inK]); (try simp [SX.den, SX.IsU8, SX.AllP, *]); (try omega))), ?_⟩
    intro a16 w16 hr16' _
    have hr16 := h15.unbase hr16'
    have hK16 := hK14.keep hr16'.keeps (by simp [frameAt, mutB])
    refine post_call 14 [.v (.slice adk i cpk), .v (.int .i64 y.lba)] hr16 (by first | exact wanted_none rfl | exact wanted_zero (hr16.env.same rfl rfl rfl rfl) rfl (by simp) | exact wanted_zero (hr16.env.same rfl rfl rfl rfl) rfl (by simp [*])) rfl (callable 14 Try.func14) (in_ok w16 _ K y.lba hK16 (by omega) ((hmem _).2 ⟨y, hyL, rfl⟩)) ?_
    rintro e17 w17 ⟨rfl, hb17⟩
    refine ⟨_, rfl, ?_⟩
    have h17 := hr16.ret hb17 91 (.v (.bool true)) rfl _ (hr16.all.below hb17) (by simp) rfl
    refine seg cfg6_ok mixed PanicFree.body 1000 [false] [] h17 (by first | trivial | exact HpRep.nil | assumption) (by kernel_rfl) fun s_ hs_ => ?_
    simp (maxSteps := 10000000) [SX.vc, SX.stop, SX.contS, SX.contB, SX.contW, SX.contR, SX.contD, SX.sxStep, SX.stepPure, SX.stepNew, SX.stepStore, SX.stepKeep, SX.guardIx, SX.evOp, SX.opd, SX.opds, SX.optOpd, SX.look, SX.putS, SX.gobs, SX.AllP, SX.leave, SX.lookC, SX.lookB, SX.lookT, SX.lookN, SX.findK, SX.evBuiltin, SX.ints, SX.foldI, SX.evBin, SX.evInt, SX.evStr, SX.evEq, SX.arith, SX.evLoad, SX.shapeUp, SX.evFieldAddr, SX.evField, SX.evIndexAddr, SX.evIndex, SX.evFill, SX.evBuild, SX.szs, SX.cellsV, SX.evNew, SX.evStore, SX.spliceL, SX.SV.cells, SX.evConv, SX.evSlice, SX.bnd, SX.evNil, SX.evUn, SX.evPick, SX.pickOpd, SX.popTo, SX.cnd, SX.env0, SX.TD.isAgg, SX.TD.isIface, SX.tails, SX.NotAgg, SX.evLookup, SX.evConvH, SX.evPtrEq, SX.isCells, SX.thaw, SX.frz, SX.fixB, SX.rootIx, SX.Froz, SX.frzStep, SX.fork, Go.Value.cells, Go.undef, cfg6]
    refine ⟨by (unfold SX.Ob; first | trivial | omega | ((try simp only [SX.inK]); (try simp [SX.den, SX.IsU8, SX.AllP, *]); (try omega))), ?_⟩
    intro a18 w18 hr18 _
    exact post_rnd (k - (j + 1)) (by omega) ⟨j + 1, rfl, by omega, hr18.re (by simp [envTo, SX.look, den]) trivial rfl rfl⟩
  obtain rfl : j = k := by omega
  have hlt3' : ¬ (j : Int) < (j : Int) := by omega
  have hle : (i : Int) ≤ (j : Int) := by omega
  refine seg cfg6_ok mixed PanicFree.body 1000 [false] [(95, true)] hr14 (by first | trivial | exact HpRep.nil | assumption) (by kernel_rfl) fun s_ hs_ => ?_
  simp (maxSteps := 10000000) [SX.vc, SX.stop, SX.contS, SX.contB, SX.contW, SX.contR, SX.contD, SX.sxStep, SX.stepPure, SX.stepNew, SX.stepStore, SX.stepKeep, SX.guardIx, SX.evOp, SX.opd, SX.opds, SX.optOpd, SX.look, SX.putS, SX.gobs, SX.AllP, SX.leave, SX.lookC, SX.lookB, SX.lookT, SX.lookN, SX.findK, SX.evBuiltin, SX.ints, SX.foldI, SX.evBin, SX.evInt, SX.evStr, SX.evEq, SX.arith, SX.evLoad, SX.shapeUp, SX.evFieldAddr, SX.evField, SX.evIndexAddr, SX.evIndex, SX.evFill, SX.evBuild, SX.szs, SX.cellsV, SX.evNew, SX.evStore, SX.spliceL, SX.SV.cells, SX.evConv, SX.evSlice, SX.bnd, SX.evNil, SX.evUn, SX.evPick, SX.pickOpd, SX.popTo, SX.cnd, SX.env0, SX.TD.isAgg, SX.TD.isIface, SX.tails, SX.NotAgg, SX.evLookup, SX.evConvH, SX.evPtrEq, SX.isCells, SX.thaw, SX.frz, SX.fixB, SX.rootIx, SX.Froz, SX.frzStep, SX.fork, Go.Value.cells, Go.undef, cfg6, hlt3', hle]
  refine ⟨by (unfold SX.Ob; first | trivial | omega | ((try simp only [SX.inK]); (try simp [SX.den, SX.IsU8, SX.AllP, *]); (try omega))), ?_⟩
  intro a15 w15 hr15' _
  have hr15 := h10.unbase hr15'
  exact post_retn (end1 hr15 rfl rfl ⟨rfl, hr15.keeps.toBelow⟩).1
end Go.Proofs
