/- Requests: what Ask tells behind Done; the chapter's example. -/
import Derived.Test.YtffooiccklfhlaaNH
namespace Go.Proofs
set_option linter.unusedVariables false
set_option linter.unusedSimpArgs false
set_option linter.unusedSectionVars false
open Go Go.SX Go.RowKit

theorem insQ {s : Sen} {x : Sad} {q : Nat} (hs : ChkS s.below s.S) (hno : ansS s.S x.id = none) (hp : Sd.PlaceP s.S x.id q) (i : Int) :
    ansS (s.S.take q ++ x :: s.S.drop q) i = if i = x.id then some x else ansS s.S i := by
  have hmem : ∀ t : Sad, t ∈ s.S ↔ t ∈ s.S.take q ∨ t ∈ s.S.drop q := fun t => by
    conv => lhs; rw [← List.take_append_drop q s.S]
    exact List.mem_append
  by_cases hi : i = x.id
  · rw [if_pos hi]
    unfold ansS
    rw [List.find?_append, List.find?_eq_none.2]
    · simp [hi]
    · intro t ht
      have := ansS_none.1 hno t ((hmem t).2 (.inl ht))
      simp; omega
  · rw [if_neg hi]
    unfold ansS
    have e : List.find? (fun y => decide (Sad.id y = i)) s.S = List.find? (fun y => decide (Sad.id y = i)) (s.S.take q ++ s.S.drop q) := by rw [List.take_append_drop]
    rw [e, List.find?_append, List.find?_append, List.find?_cons_of_neg]
    simp; omega

theorem ans_tail {y : Sad} {r : List Sad} {i : Int} (h : y.id < i) : ansS r i = ansS (y :: r) i := by
  unfold ansS
  rw [List.find?_cons_of_neg]
  simp; omega

/-- What is known of one behind an answer. -/
theorem upd_ans {s s' : Sen} {x : Sad} (hs : OkN s) (hb : s.below ≤ x.id) (hno : ansS s.S x.id = none) (h : Upd s x s') :
    s.below ≤ s'.below ∧ (s.S.length < 8 → s'.below = s.below) ∧ ∀ i, s'.below ≤ i → ansS s'.S i = if i = x.id then some x else ansS s.S i := by
  obtain ⟨_, q, hq, hp, hA, hB⟩ := h
  have hQ := insQ hs.2.2.2 hno hp
  by_cases h8 : s.S.length < 8
  · obtain ⟨e1, e2⟩ := hA h8
    exact ⟨by omega, fun _ => e1, fun i _ => by rw [e2, hQ]⟩
  · obtain ⟨e1, e2⟩ := hB (by omega)
    have hbl : ∀ t ∈ s.S.take q ++ x :: s.S.drop q, s.below ≤ t.id := fun t ht => by
      have hS := (chkS_pw.1 hs.2.2.2).1
      rcases List.mem_append.1 ht with ht | ht
      · exact hS t (List.mem_of_mem_take ht)
      rcases List.mem_cons.1 ht with rfl | ht
      · exact hb
      · exact hS t (List.mem_of_mem_drop ht)
    rw [e1, e2]
    generalize hQe : s.S.take q ++ x :: s.S.drop q = Q at *
    rcases Q with _ | ⟨y, r⟩
    · simp at hQe
    · simp only [nth, List.getD_cons_zero, List.drop_succ_cons, List.drop_zero]
      refine ⟨by have := hbl y List.mem_cons_self; omega, fun h => absurd h h8, fun i hi => ?_⟩
      rw [ans_tail (y := y) (by omega), hQ]

/-- A request that is new. -/
theorem ask_new {L : List Sen} {f i : Int} (h : askK L f i = 0) : 0 ≤ i ∧ ChkN (-1) L ∧ (getN L f).below ≤ i ∧ ansS (getN L f).S i = none := by
  unfold askK at h
  by_cases h1 : i < 0 ∨ ¬ ChkN (-1) L
  · rw [if_pos h1] at h; omega
  · rw [if_neg h1] at h
    have h2 : ChkN (-1) L := Classical.byContradiction fun h => h1 (.inr h)
    have h3 : ¬ i < 0 := fun h => h1 (.inl h)
    refine ⟨by omega, h2, ?_⟩
    unfold getN
    rcases ho : ofN L f with _ | s
    · exact ⟨by show (0 : Int) ≤ i; omega, rfl⟩
    · rw [ho] at h
      dsimp only at h
      by_cases hb : i < s.below
      · rw [if_pos hb] at h; omega
      · rw [if_neg hb] at h
        rcases ha : ansS s.S i with _ | x
        · exact ⟨by show s.below ≤ i; omega, ha⟩
        · rw [ha] at h; simp at h
theorem getN_ok {L : List Sen} {f : Int} (hC : ChkN (-1) L) (hf : 0 ≤ f) : OkN (getN L f) ∧ (getN L f).frm = f := by
  unfold getN
  rcases ho : ofN L f with _ | s
  · exact ⟨⟨hf, by simp [newN], by simp [newN], by simp [newN, ChkS]⟩, rfl⟩
  · exact ⟨((chkN_pw.1 hC).1 s (ofN_some ho).1).1, (ofN_some ho).2⟩
theorem ask_eq {L : List Sen} {f i : Int} (hC : ChkN (-1) L) : askK L f i = (if i < 0 ∨ i < (getN L f).below then 2 else if (ansS (getN L f).S i).isSome then 1 else 0) ∧ askM L f i = if i < 0 ∨ i < (getN L f).below then mg0 else ((ansS (getN L f).S i).map Sad.m).getD mg0 := by
  unfold askK askM getN
  by_cases h1 : i < 0
  · simp [h1]
  · rcases ho : ofN L f with _ | s
    · simp [h1, hC, newN, ansS]
    · by_cases hb : i < s.below
      · simp [h1, hC, hb]
      · rcases ha : ansS s.S i with _ | x <;> simp [h1, hC, hb, ha]
theorem ask_other {L L' : List Sen} {f g i : Int} {x : Sad} (h : DoneTo L f x L') (hC : ChkN (-1) L) (hg : g ≠ f) : askK L' g i = askK L g i ∧ askM L' g i = askM L g i := by
  have e : getN L' g = getN L g := by rw [getN, getN, h.other g hg]
  rw [(ask_eq hC).1, (ask_eq hC).2, (ask_eq h.chk).1, (ask_eq h.chk).2, e]
  exact ⟨rfl, rfl⟩
/-- What Ask tells of the one behind Done. -/
theorem ask_self {L L' : List Sen} {f : Int} {x : Sad} (h : DoneTo L f x L') (hf : 0 ≤ f) (hk : askK L f x.id = 0) :
    ∃ b, (getN L f).below ≤ b ∧ ((getN L f).S.length < 8 → b = (getN L f).below) ∧ (∀ i, askK L' f i = if i < 0 ∨ i < b then 2 else if i = x.id then 1 else askK L f i) ∧ ∀ i, askM L' f i = if i < 0 ∨ i < b then mg0 else if i = x.id then x.m else askM L f i := by
  obtain ⟨hi, hC, hb, hno⟩ := ask_new hk
  obtain ⟨s', hs', hU⟩ := h.self
  obtain ⟨hok, _⟩ := getN_ok hC hf
  obtain ⟨h1, h2, h3⟩ := upd_ans hok hb hno hU
  have e : getN L' f = s' := by rw [getN, hs']; rfl
  refine ⟨s'.below, h1, h2, fun i => ?_, fun i => ?_⟩
  · rw [(ask_eq h.chk).1, (ask_eq hC).1, e]
    by_cases hc : i < 0 ∨ i < s'.below
    · rw [if_pos hc, if_pos hc]
    · rw [if_neg hc, if_neg hc, h3 i (by omega)]
      by_cases hx : i = x.id
      · rw [if_pos hx, if_pos hx]; rfl
      · have hn : ¬ (i < 0 ∨ i < (getN L f).below) := by omega
        rw [if_neg hx, if_neg hx, if_neg hn]
  · rw [(ask_eq h.chk).2, (ask_eq hC).2, e]
    by_cases hc : i < 0 ∨ i < s'.below
    · rw [if_pos hc, if_pos hc]
    · rw [if_neg hc, if_neg hc, h3 i (by omega)]
      by_cases hx : i = x.id
      · rw [if_pos hx, if_pos hx]; rfl
      · have hn : ¬ (i < 0 ∨ i < (getN L f).below) := by omega
        rw [if_neg hx, if_neg hx, if_neg hn]
theorem doneE_new {L : List Sen} {f i : Int} (hf : 0 ≤ f) : doneE L f i = 0 ↔ askK L f i = 0 := by
  unfold doneE
  by_cases h1 : i < 0 ∨ ¬ ChkN (-1) L
  · have : askK L f i = 2 := if_pos h1
    rw [if_pos (.inr h1), this]; omega
  · rw [if_neg (fun h => h.elim (fun h => by omega) h1)]
    by_cases k2 : askK L f i = 2
    · rw [if_pos k2, k2]; omega
    · by_cases k1 : askK L f i = 1
      · rw [if_neg k2, if_pos k1, k1]; omega
      · have h2 : ChkN (-1) L := Classical.byContradiction fun h => h1 (.inr h)
        have h3 := (ask_eq (f := f) (i := i) h2).1
        rw [if_neg k2, if_neg k1]
        by_cases a1 : i < 0 ∨ i < (getN L f).below
        · rw [if_pos a1] at h3; omega
        · rw [if_neg a1] at h3
          by_cases a2 : (ansS (getN L f).S i).isSome = true
          · rw [if_pos a2] at h3; omega
          · rw [if_neg a2] at h3; omega
theorem smallN_nil : SmallN [] := by simp [SmallN]

def mgK (k : Int) : Mg := ⟨k, 0, 0, 0, none, 0, 0, none, 0, 0⟩

set_option maxRecDepth 100000 in
set_option maxHeartbeats 8000000 in
/-- The example. -/
theorem live_ok (w : World) : Calls Try.prog 7 (denL []).toArray w (Ret w (.v (.bool true))) := by
  have hk0 : askK [] 1 3 = 0 := by decide
  have hE : doneE [] 1 3 = 0 := by decide
  refine enter (F := frame0 w) Try.func7 rfl [] [] (by simp [Try.f7]) trivial (keeps0 w) fun a hr => ?_
  refine seg cfg7_ok mixed PanicFree.body 1000 [] [] hr (by first | trivial | exact HpRep.nil | assumption) (by kernel_rfl) fun s_ hs_ => ?_
  simp (maxSteps := 10000000) [SX.vc, SX.stop, SX.contS, SX.contB, SX.contW, SX.contR, SX.contD, SX.sxStep, SX.stepPure, SX.stepNew, SX.stepStore, SX.stepKeep, SX.guardIx, SX.evOp, SX.opd, SX.opds, SX.optOpd, SX.look, SX.putS, SX.gobs, SX.AllP, SX.leave, SX.lookC, SX.lookB, SX.lookT, SX.lookN, SX.findK, SX.evBuiltin, SX.ints, SX.foldI, SX.evBin, SX.evInt, SX.evStr, SX.evEq, SX.arith, SX.evLoad, SX.shapeUp, SX.evFieldAddr, SX.evField, SX.evIndexAddr, SX.evIndex, SX.evFill, SX.evBuild, SX.szs, SX.cellsV, SX.evNew, SX.evStore, SX.spliceL, SX.SV.cells, SX.evConv, SX.evSlice, SX.bnd, SX.evNil, SX.evUn, SX.evPick, SX.pickOpd, SX.popTo, SX.cnd, SX.env0, SX.TD.isAgg, SX.TD.isIface, SX.tails, SX.NotAgg, SX.evLookup, SX.evConvH, SX.evPtrEq, SX.isCells, SX.thaw, SX.frz, SX.fixB, SX.rootIx, SX.Froz, SX.frzStep, SX.fork, Go.Value.cells, Go.undef, cfg7, Try.f7]
  refine ⟨by (unfold SX.Ob; first | trivial | omega | ((try simp only [SX.inK]); (try simp [SX.den, SX.IsU8, SX.AllP, *]); (try omega))), ?_⟩
  intro a1 w1 hr1 _
  refine post_call 9 [.v (.slice none 0 0), .v (.int .i64 1), .v (.int .i64 3), .ag (mgC (mgK 7))] hr1 (by first | exact wanted_none rfl | exact wanted_zero (hr1.env.same rfl rfl rfl rfl) rfl (by simp) | exact wanted_zero (hr1.env.same rfl rfl rfl rfl) rfl (by simp [*])) rfl (callable 9 Try.func9) (done_ok (P := fun _ => False) w1 _ [] 1 3 (mgK 7) RdD.nil smallN_nil (by simp) (by omega)) ?_
  rintro e2 w2 ⟨v, L, rfl, hD, hDT, _, hb2⟩
  refine ⟨_, rfl, ?_⟩
  have h2 := hr1.ret hb2 9 (.tu [.v v, .v (.int .i64 (doneE [] 1 3))]) rfl _ (hr1.all.below hb2) (by simp) rfl
  have hd := hDT hE
  obtain ⟨b, _, hb8, hK, hM⟩ := ask_self hd (by omega) hk0
  have hb : b = 0 := hb8 (by simp [getN, ofN, newN])
  subst hb
  have hK3 : askK L 1 3 = 1 := by rw [hK]; simp
  have hM3 : askM L 1 3 = mgK 7 := by rw [hM]; simp
  have hK4 : askK L 1 4 = 0 := by rw [hK]; decide
  have hM4 : askM L 1 4 = mg0 := by rw [hM]; decide
  have hS := hd.small smallN_nil (by show (3 : Int) ≤ _; omega)
  have hlen : L.length ≤ 1 := by have := hd.len; simp at this; split at this <;> omega
  refine seg cfg7_ok mixed PanicFree.body 1000 [] [] h2.rebase (by first | trivial | exact HpRep.nil | assumption) (by kernel_rfl) fun s_ hs_ => ?_
  simp (maxSteps := 10000000) [SX.vc, SX.stop, SX.contS, SX.contB, SX.contW, SX.contR, SX.contD, SX.sxStep, SX.stepPure, SX.stepNew, SX.stepStore, SX.stepKeep, SX.guardIx, SX.evOp, SX.opd, SX.opds, SX.optOpd, SX.look, SX.putS, SX.gobs, SX.AllP, SX.leave, SX.lookC, SX.lookB, SX.lookT, SX.lookN, SX.findK, SX.evBuiltin, SX.ints, SX.foldI, SX.evBin, SX.evInt, SX.evStr, SX.evEq, SX.arith, SX.evLoad, SX.shapeUp, SX.evFieldAddr, SX.evField, SX.evIndexAddr, SX.evIndex, SX.evFill, SX.evBuild, SX.szs, SX.cellsV, SX.evNew, SX.evStore, SX.spliceL, SX.SV.cells, SX.evConv, SX.evSlice, SX.bnd, SX.evNil, SX.evUn, SX.evPick, SX.pickOpd, SX.popTo, SX.cnd, SX.env0, SX.TD.isAgg, SX.TD.isIface, SX.tails, SX.NotAgg, SX.evLookup, SX.evConvH, SX.evPtrEq, SX.isCells, SX.thaw, SX.frz, SX.fixB, SX.rootIx, SX.Froz, SX.frzStep, SX.fork, Go.Value.cells, Go.undef, cfg7, hE]
  refine ⟨by (unfold SX.Ob; first | trivial | omega | ((try simp only [SX.inK]); (try simp [SX.den, SX.IsU8, SX.AllP, *]); (try omega))), ?_⟩
  intro a3 w3 hr3' _
  have hr3 := h2.unbase hr3'
  have hD3 := hD.keep hr3'.keeps (by simp [frameAt, mutB])
  refine post_call 8 [.v v, .v (.int .i64 1), .v (.int .i64 3)] hr3 (by first | exact wanted_none rfl | exact wanted_zero (hr3.env.same rfl rfl rfl rfl) rfl (by simp) | exact wanted_zero (hr3.env.same rfl rfl rfl rfl) rfl (by simp [*])) rfl (callable 8 Try.func8) (ask_ok w3 v L 1 3 hD3 hS (by omega)) ?_
  rintro e4 w4 ⟨rfl, hb4⟩
  refine ⟨_, rfl, ?_⟩
  have h4 := hr3.ret hb4 14 (.tu [.ag (mgC (askM L 1 3)), .v (.int .i64 (askK L 1 3))]) rfl _ (hr3.all.below hb4) (by simp) rfl
  refine seg cfg7_ok mixed PanicFree.body 1000 [] [] h4.rebase (by first | trivial | exact HpRep.nil | assumption) (by kernel_rfl) fun sA hsA => ?_
  simp (maxSteps := 10000000) [SX.vc, SX.stop, SX.contS, SX.contB, SX.contW, SX.contR, SX.contD, SX.sxStep, SX.stepPure, SX.stepNew, SX.stepStore, SX.stepKeep, SX.guardIx, SX.evOp, SX.opd, SX.opds, SX.optOpd, SX.look, SX.putS, SX.gobs, SX.AllP, SX.leave, SX.lookC, SX.lookB, SX.lookT, SX.lookN, SX.findK, SX.evBuiltin, SX.ints, SX.foldI, SX.evBin, SX.evInt, SX.evStr, SX.evEq, SX.arith, SX.evLoad, SX.shapeUp, SX.evFieldAddr, SX.evField, SX.evIndexAddr, SX.evIndex, SX.evFill, SX.evBuild, SX.szs, SX.cellsV, SX.evNew, SX.evStore, SX.spliceL, SX.SV.cells, SX.evConv, SX.evSlice, SX.bnd, SX.evNil, SX.evUn, SX.evPick, SX.pickOpd, SX.popTo, SX.cnd, SX.env0, SX.TD.isAgg, SX.TD.isIface, SX.tails, SX.NotAgg, SX.evLookup, SX.evConvH, SX.evPtrEq, SX.isCells, SX.thaw, SX.frz, SX.fixB, SX.rootIx, SX.Froz, SX.frzStep, SX.fork, Go.Value.cells, Go.undef, cfg7, hK3, hM3, mgK, mgC]
  refine ⟨by (unfold SX.Ob; first | trivial | omega | ((try simp only [SX.inK]); (try simp [SX.den, SX.IsU8, SX.AllP, *]); (try omega))), ?_⟩
  intro a5 w5 hr5' _
  have hr5 := h4.unbase hr5'
  have hD5 := (hD3.below hb4).keep hr5'.keeps (by simp [frameAt, mutB])
  refine post_call 8 [.v v, .v (.int .i64 1), .v (.int .i64 4)] hr5 (by first | exact wanted_none rfl | exact wanted_zero (hr5.env.same rfl rfl rfl rfl) rfl (by simp) | exact wanted_zero (hr5.env.same rfl rfl rfl rfl) rfl (by simp [*])) rfl (callable 8 Try.func8) (ask_ok w5 v L 1 4 hD5 hS (by omega)) ?_
  rintro e6 w6 ⟨rfl, hb6⟩
  refine ⟨_, rfl, ?_⟩
  have h6 := hr5.ret hb6 19 (.tu [.ag (mgC (askM L 1 4)), .v (.int .i64 (askK L 1 4))]) rfl _ (hr5.all.below hb6) (by simp) rfl
  refine seg cfg7_ok mixed PanicFree.body 1000 [] [(24, true), (29, true), (33, true)] h6 (by first | trivial | exact HpRep.nil | assumption) (by kernel_rfl) fun s_ hs_ => ?_
  simp (maxSteps := 10000000) [SX.vc, SX.stop, SX.contS, SX.contB, SX.contW, SX.contR, SX.contD, SX.sxStep, SX.stepPure, SX.stepNew, SX.stepStore, SX.stepKeep, SX.guardIx, SX.evOp, SX.opd, SX.opds, SX.optOpd, SX.look, SX.putS, SX.gobs, SX.AllP, SX.leave, SX.lookC, SX.lookB, SX.lookT, SX.lookN, SX.findK, SX.evBuiltin, SX.ints, SX.foldI, SX.evBin, SX.evInt, SX.evStr, SX.evEq, SX.arith, SX.evLoad, SX.shapeUp, SX.evFieldAddr, SX.evField, SX.evIndexAddr, SX.evIndex, SX.evFill, SX.evBuild, SX.szs, SX.cellsV, SX.evNew, SX.evStore, SX.spliceL, SX.SV.cells, SX.evConv, SX.evSlice, SX.bnd, SX.evNil, SX.evUn, SX.evPick, SX.pickOpd, SX.popTo, SX.cnd, SX.env0, SX.TD.isAgg, SX.TD.isIface, SX.tails, SX.NotAgg, SX.evLookup, SX.evConvH, SX.evPtrEq, SX.isCells, SX.thaw, SX.frz, SX.fixB, SX.rootIx, SX.Froz, SX.frzStep, SX.fork, Go.Value.cells, Go.undef, cfg7, hK4, hM4, mg0, mgC]
  refine ⟨by (unfold SX.Ob; first | trivial | omega | ((try simp only [SX.inK]); (try simp [SX.den, SX.IsU8, SX.AllP, *]); (try omega))), ?_⟩
  intro a7 w7 hr7 _
  exact post_retn (end1 hr7 rfl rfl ⟨by simp [den], hr7.keeps.toBelow⟩).1
end Go.Proofs
