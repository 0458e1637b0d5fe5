/- CwK: texts of this proof, joined. -/
import Derived.Test.YtbhkpmnieopddaaCwJ
set_option linter.unusedVariables false
set_option linter.unusedSimpArgs false
set_option linter.unusedSectionVars false
namespace Go.Proofs.C8
open Go Go.Proofs Go.SX Go.RowKit Go.Proofs.L6
def FarP (w : World) (B1 B2 B3 : List Nat) (s1 s2 : Nat) (x : Nat) : Prop := w.heap.size ≤ x ∧ x ∉ B1 ∧ x ∉ B2 ∧ x ∉ B3 ∧ x ≠ s1 ∧ x ≠ s2
theorem flatV (d : Co) (a1 a2 a3 : Option Addr) (n1 m1 n2 m2 n3 m3 : Nat) : ∀ x ∈ [(⟨d, .slice a1 n1 m1, .slice a2 n2 m2, .slice a3 n3 m3⟩ : Cov)], ∀ c ∈ covC x, NotAgg (den c) := by
  simp [covC, coC, den, NotAgg]
theorem tape_pos {E : List Evt} (h : E ≠ []) : 0 < (tapeL E).length := by
  cases E with
  | nil => exact absurd rfl h
  | cons e r =>
    have := wr_pos e
    simp [tapeL]
    omega
theorem allC_snoc (c : Co) (E : List Evt) (e : Evt) : allC c (E ++ [e]) = doC (allC c E) e := by simp [allC]
def RpsI (w : World) (s1 s2 : Nat) (cut : Int) (c0 : Co) (uL uS uW : Value) (L : List Evt) (adE : Option Addr) (cpE : Nat) (m : Nat) (a : Act) (w' : World) : Prop :=
  ∃ (k : Nat) (E : List Evt) (vL vS vW v1 v2 v3 : Value) (B1 B2 B3 : List Nat) (X : List Cov), m = L.length - k ∧ k ≤ L.length ∧ E.length ≤ k ∧ (∀ e ∈ E, goodE e ∧ e ∈ L) ∧
    (∀ x ∈ B1, w.heap.size ≤ x ∧ x < w'.heap.size ∧ x ≠ s1 ∧ x ≠ s2 ∧ x ∉ B2 ∧ x ∉ B3) ∧ (∀ x ∈ B2, w.heap.size ≤ x ∧ x < w'.heap.size ∧ x ≠ s1 ∧ x ≠ s2 ∧ x ∉ B3) ∧ (∀ x ∈ B3, w.heap.size ≤ x ∧ x < w'.heap.size ∧ x ≠ s1 ∧ x ≠ s2) ∧
    RdCo (FarP w B1 B2 B3 s1 s2) w' uL uS uW c0 ∧ RdCo (FarP w B1 B2 B3 s1 s2) w' vL vS vW (allC c0 E) ∧ OwU (fun x => x ∈ B1) w' v1 (tapeL E) ∧ (tapeL E).length ≤ 80 * E.length ∧ OwI (fun x => x ∈ B2) w' v2 (endsL E) ∧ OwV (fun x => x ∈ B3) w' v3 X ∧ X.length = E.length + 1 ∧
    (∀ j, j ≤ E.length → (nth cov0 X j).c = allC c0 (E.take j) ∧ RdCo (FarP w B1 B2 B3 s1 s2) w' (nth cov0 X j).vL (nth cov0 X j).vS (nth cov0 X j).vW (allC c0 (E.take j))) ∧
    (E = [] → v1 = .slice none 0 0) ∧
    RepX (frame0 w) ⟨[(42, 0, .v (.int .i64 k)), (41, 0, .v (.int .i64 L.length)), (40, 0, .v (.slice adE L.length cpE)), (13, 0, .v v1), (14, 0, .v v2), (15, 0, .v v3), (12, 0, .ptr 1 s2 0), (10, 0, .ptr 0 s1 0), (9, 0, .v (.bool true)), (8, 0, .v (.bool false)), (3, 0, .v (.int .i64 cut))],
      [(s1, true, .cells (coC c0 uL uS uW) 31), (s2, true, .cells (coC (allC c0 E) vL vS vW) 31)], 0, 0, 140, [], [], []⟩ a w'
structure EndS (w : World) (z : Nat) (B1 B2 B3 : List Nat) (s1 s2 : Nat) (c0 cE : Co) (uL uS uW vL vS vW v1 v2 v3 : Value) (E : List Evt) (X : List Cov) (w' : World) : Prop where
  C : RdCo (fun x => FarP w B1 B2 B3 s1 s2 x ∧ x < z) w' uL uS uW c0
  D : RdCo (fun x => FarP w B1 B2 B3 s1 s2 x ∧ x < z) w' vL vS vW cE
  T : OwU (fun x => x ∈ B1) w' v1 (tapeL E)
  I : OwI (fun x => x ∈ B2) w' v2 (endsL E)
  V : OwV (fun x => x ∈ B3) w' v3 X
  X : ∀ j, j ≤ E.length → RdCo (fun x => FarP w B1 B2 B3 s1 s2 x ∧ x < z) w' (nth cov0 X j).vL (nth cov0 X j).vS (nth cov0 X j).vW (allC c0 (E.take j))
  b1 : ∀ x ∈ B1, x < z ∧ x ≠ s1 ∧ x ≠ s2
  b2 : ∀ x ∈ B2, x < z ∧ x ≠ s1 ∧ x ≠ s2
  b3 : ∀ x ∈ B3, x < z ∧ x ≠ s1 ∧ x ≠ s2
theorem EndS.keep {w : World} {z : Nat} {B1 B2 B3 : List Nat} {s1 s2 : Nat} {c0 cE : Co} {uL uS uW vL vS vW v1 v2 v3 : Value} {E : List Evt} {X : List Cov} {u u' : World} {M : List Nat} (h : EndS w z B1 B2 B3 s1 s2 c0 cE uL uS uW vL vS vW v1 v2 v3 E X u) (hk : KeepsTo u M u') (hM : ∀ x ∈ M, x = s1 ∨ x = s2 ∨ z ≤ x) :
    EndS w z B1 B2 B3 s1 s2 c0 cE uL uS uW vL vS vW v1 v2 v3 E X u' where
  C := RdCo.keepM' h.C hk fun x hx hq => by
    obtain ⟨⟨_, f1, f2, f3, f4, f5⟩, f6⟩ := hq
    have := hM x hx
    omega
  D := RdCo.keepM' h.D hk fun x hx hq => by
    obtain ⟨⟨_, f1, f2, f3, f4, f5⟩, f6⟩ := hq
    have := hM x hx
    omega
  T := h.T.keep hk fun x hx hq => by
    have := hM x hx
    have := h.b1 x hq
    omega
  I := h.I.keep hk fun x hx hq => by
    have := hM x hx
    have := h.b2 x hq
    omega
  V := h.V.keep hk fun x hx hq => by
    have := hM x hx
    have := h.b3 x hq
    omega
  X := fun j hj => RdCo.keepM' (h.X j hj) hk fun x hx hq => by
    obtain ⟨⟨_, f1, f2, f3, f4, f5⟩, f6⟩ := hq
    have := hM x hx
    omega
  b1 := h.b1
  b2 := h.b2
  b3 := h.b3
theorem EndS.below {w : World} {z : Nat} {B1 B2 B3 : List Nat} {s1 s2 : Nat} {c0 cE : Co} {uL uS uW vL vS vW v1 v2 v3 : Value} {E : List Evt} {X : List Cov} {u u' : World} (h : EndS w z B1 B2 B3 s1 s2 c0 cE uL uS uW vL vS vW v1 v2 v3 E X u) (hb : Below u.heap.size u u') :
    EndS w z B1 B2 B3 s1 s2 c0 cE uL uS uW vL vS vW v1 v2 v3 E X u' := h.keep (KeepsTo.below hb []) (by simp)
def RpE (w : World) (s1 s2 sC : Nat) (cut : Nat) (c0 cE : Co) (uL uS uW vL vS vW : Value) (fc : List SV) (g1 g3 : Option Addr) (T j1 j3 bI NI cI uI : Nat) (E : List Evt) (X : List Cov) (J : World → Prop) (m : Nat) (a : Act) (w' : World) : Prop :=
  ∃ i : Nat, m = E.length - i ∧ i ≤ E.length ∧ endN E i ≤ cut ∧ J w' ∧
    RepX (frame0 w) ⟨[(22, 0, .v (.int .i64 i)), (3, 0, .v (.int .i64 cut)), (14, 0, .sl 3 bI 0 0 (E.length + 1) cI 1), (20, 0, .ptr 2 sC 0), (13, 0, .v (.slice g1 T j1)), (15, 0, .v (.slice g3 X.length j3)), (12, 0, .ptr 1 s2 0), (10, 0, .ptr 0 s1 0), (9, 0, .v (.bool true)), (8, 0, .v (.bool false))],
      [(s1, true, .cells (coC c0 uL uS uW) 31), (s2, true, .cells (coC cE vL vS vW) 31), (sC, true, .cells fc 31), (bI, false, .arr 0 (E.length + 1) (fun j => intC (nth 0 (endsL E) j)) 1 uI (0, 0))], 0, 0, 140, [], [], []⟩ a w'
set_option maxRecDepth 100000 in
set_option maxHeartbeats 64000000 in
theorem replays_ok {P : Nat → Prop} (w : World) (z t cut : Int) (v : Value) (L : List Evt) (hL : RdE P w v L) (hn : L.length ≤ 1000000000000000) (hbd : ∀ e ∈ L, ∀ x ∈ evL e, x ≤ 9223372036854775807) (hc1 : -9223372036854775808 ≤ cut) (hc2 : cut ≤ 9223372036854775807) : Calls Try.prog 6 (denL [.v (.int .i64 z), .v (.int .i64 t), .v v, .v (.int .i64 cut)]).toArray w (Ret w (.v (.bool true))) := by
  obtain ⟨adE, cpE, rfl⟩ := hL.slice
  refine enter (F := frame0 w) Try.func6 rfl [.v (.int .i64 z), .v (.int .i64 t), .v (.slice adE L.length cpE), .v (.int .i64 cut)] [] (by simp [Try.f6]) trivial (keeps0 w) fun a hr => ?_
  refine seg cfg6_ok mixed PanicFree.body 1000 [] [] hr (by first | trivial | exact HpRep.nil | assumption) (by kernel_rfl) fun s_ hs_ => ?_
  simp (maxSteps := 10000000) [SX.vc, SX.stop, SX.contS, SX.sxStep, SX.stepPure, SX.stepNew, SX.stepStore, SX.guardIx, SX.evOp, SX.opd, SX.putS, SX.gobs, SX.AllP, SX.leave, SX.evNew, SX.evStore, SX.env0, cfg6, Try.f6]
  refine ⟨by (unfold SX.Ob; first | trivial | omega | ((try simp only [SX.inK]); (try simp [SX.den, SX.IsU8, SX.AllP, *]); (try omega))), ?_⟩
  intro a1 w1 hr1 _
  refine post_call 7 [] hr1 (by first | exact wanted_none rfl | exact wanted_zero (hr1.env.same rfl rfl rfl rfl) rfl (by simp) | exact wanted_zero (hr1.env.same rfl rfl rfl rfl) rfl (by simp [*])) rfl (callable 7 Try.func7) (live_ok w1) ?_
  rintro e2 w2 ⟨rfl, hb2⟩
  refine ⟨_, rfl, ?_⟩
  have h2 := hr1.ret hb2 23 (.v (.bool true)) rfl _ (hr1.all.below hb2) (by simp) rfl
  refine seg cfg6_ok mixed PanicFree.body 1000 [] [] h2 (by first | trivial | exact HpRep.nil | assumption) (by kernel_rfl) fun s_ hs_ => ?_
  simp (maxSteps := 10000000) [SX.vc, SX.stop, SX.contS, SX.sxStep, SX.stepPure, SX.stepNew, SX.stepStore, SX.guardIx, SX.evOp, SX.opd, SX.look, SX.putS, SX.gobs, SX.AllP, SX.leave, SX.evNew, SX.evStore, cfg6]
  refine ⟨by (unfold SX.Ob; first | trivial | omega | ((try simp only [SX.inK]); (try simp [SX.den, SX.IsU8, SX.AllP, *]); (try omega))), ?_⟩
  intro a3 w3 hr3 _
  refine post_call 8 [.v (.slice adE L.length cpE)] hr3 (by first | exact wanted_none rfl | exact wanted_zero (hr3.env.same rfl rfl rfl rfl) rfl (by simp) | exact wanted_zero (hr3.env.same rfl rfl rfl rfl) rfl (by simp [*])) rfl (callable 8 Try.func8) (few_ok w3 _ L (hL.below hr3.keeps.toBelow) hn) ?_
  rintro e4 w4 ⟨rfl, hb4⟩
  refine ⟨_, rfl, ?_⟩
  have h4 := hr3.ret hb4 25 (.v (.bool (decide (FewP L)))) rfl _ (hr3.all.below hb4) (by simp) rfl
  by_cases hf : FewP L
  rotate_left
  · have hfd : decide (FewP L) = false := decide_eq_false hf
    refine seg cfg6_ok mixed PanicFree.body 1000 [true] [] h4 (by first | trivial | exact HpRep.nil | assumption) (by kernel_rfl) fun s_ hs_ => ?_
    simp (maxSteps := 10000000) [SX.vc, SX.stop, SX.contS, SX.contB, SX.sxStep, SX.stepPure, SX.guardIx, SX.evOp, SX.opd, SX.look, SX.putS, SX.gobs, SX.AllP, SX.leave, SX.evUn, cfg6, hfd]
    refine ⟨by (unfold SX.Ob; first | trivial | omega | ((try simp only [SX.inK]); (try simp [SX.den, SX.IsU8, SX.AllP, *]); (try omega))), ?_⟩
    intro a5 w5 hr5 _
    exact post_retn (end1 hr5 rfl rfl ⟨rfl, hr5.keeps.toBelow⟩).1
  have hfd : decide (FewP L) = true := decide_eq_true hf
  obtain ⟨hf1, hf2⟩ := hf
  refine seg cfg6_ok mixed PanicFree.body 1000 [false] [] h4 (by first | trivial | exact HpRep.nil | assumption) (by kernel_rfl) fun s_ hs_ => ?_
  simp (maxSteps := 10000000) [SX.vc, SX.stop, SX.contS, SX.contB, SX.sxStep, SX.stepPure, SX.stepNew, SX.stepStore, SX.guardIx, SX.evOp, SX.opd, SX.look, SX.putS, SX.gobs, SX.AllP, SX.leave, SX.evNew, SX.evStore, SX.evUn, cfg6, hfd]
  refine ⟨by (unfold SX.Ob; first | trivial | omega | ((try simp only [SX.inK]); (try simp [SX.den, SX.IsU8, SX.AllP, *]); (try omega))), ?_⟩
  intro a5 w5 hr5 _
  refine post_call 9 [.v (.int .i64 z), .v (.int .i64 t)] hr5 (by first | exact wanted_none rfl | exact wanted_zero (hr5.env.same rfl rfl rfl rfl) rfl (by simp) | exact wanted_zero (hr5.env.same rfl rfl rfl rfl) rfl (by simp [*])) rfl (callable 9 Try.func9) (begin_ok w5 z t) ?_
  rintro e6 w6 ⟨vS, rfl, hS6, hb6⟩
  refine ⟨_, rfl, ?_⟩
  have h6 := hr5.ret hb6 31 (.tu [.ag (coC (co0 (bgz z) 60 (bgt t)) (.slice none 0 0) vS (.slice none 0 0)), .v (.bool true)]) rfl _ (hr5.all.below hb6) (by simp) rfl
  obtain ⟨aS, cS, rfl⟩ := hS6.slice
  refine seg cfg6_ok mixed PanicFree.body 1000 [false] [] h6.rebase (by first | trivial | exact HpRep.nil | assumption) (by kernel_rfl) fun sA hsA => ?_
  simp (maxSteps := 10000000) [SX.vc, SX.stop, SX.contS, SX.contB, SX.sxStep, SX.stepPure, SX.stepNew, SX.stepStore, SX.guardIx, SX.evOp, SX.opd, SX.opds, SX.look, SX.putS, SX.gobs, SX.AllP, SX.leave, SX.lookT, SX.evBuiltin, SX.evLoad, SX.shapeUp, SX.cellsV, SX.evNew, SX.evStore, SX.spliceL, SX.SV.cells, SX.evUn, SX.TD.isAgg, SX.NotAgg, Go.Value.cells, cfg6, coC, co0]
  refine ⟨by (unfold SX.Ob; first | trivial | omega | ((try simp only [SX.inK]); (try simp [SX.den, SX.IsU8, SX.AllP, *]); (try omega))), ?_⟩
  intro a7 w7 hr7' _
  have hr7 := h6.unbase hr7'
  have z5 : w.heap.size ≤ w5.heap.size := hr5.keeps.size
  have z6 : w5.heap.size ≤ w6.heap.size := hb6.size
  have z7 : w6.heap.size ≤ w7.heap.size := hr7'.keeps.size
  have q7 := hpLt hr7.all
  simp at q7
  have zz := bgz_pos z
  have tt := bgt_pos t
  have I0 := inv_0 zz.1 zz.2 tt.1 tt.2
  obtain ⟨c0, hc0⟩ : ∃ c0, co0 (bgz z) 60 (bgt t) = c0 := ⟨_, rfl⟩
  have hS7 : RdP (FarP w [] [sA + 2] [sA + 3] sA (sA + 1)) w7 (.slice aS 1 cS) [⟨0, 60, -1, 0⟩] := (hS6.mono (P' := fun x => w5.heap.size ≤ x ∧ x < w6.heap.size) fun x h0 h => ⟨h, h0⟩).keep hr7'.keeps (by simp [mutB]) |>.mono fun x h0 h => ⟨by omega, by simp, by simp; omega, by simp; omega, by omega, by omega⟩
  have hI2 : OwI (fun x => x ∈ [sA + 2]) w7 (.slice (some ⟨sA + 2, 0, none⟩) 1 1) (endsL []) := .inr ⟨sA + 2, 1, 1, 3, _, by simp, rfl, by decide, by decide, by decide, hr7.all.2.2.1.1, fun j hj => by
    obtain rfl : j = 0 := by simp [endsL] at hj; omega
    rfl⟩
  have hV3 : OwV (fun x => x ∈ [sA + 3]) w7 (.slice (some ⟨sA + 3, 0, none⟩) 1 1) [⟨co0 (bgz z) 60 (bgt t), .slice none 0 0, .slice aS 1 cS, .slice none 0 0⟩] := .inr ⟨sA + 3, 1, 1, 31, _, by simp, rfl, by simp, by simp, by decide, hr7.all.2.2.2.1.1, fun j hj => by
    obtain rfl : j = 0 := by simpa using hj
    rfl⟩
  have hc7 : RdCo (FarP w [] [sA + 2] [sA + 3] sA (sA + 1)) w7 (.slice none 0 0) (.slice aS 1 cS) (.slice none 0 0) (co0 (bgz z) 60 (bgt t)) := ⟨OwS.nil.rd, hS7, OwS.nil.rd⟩
  refine post_loop (RpsI w sA (sA + 1) cut (co0 (bgz z) 60 (bgt t)) (.slice none 0 0) (.slice aS 1 cS) (.slice none 0 0) L adE cpE) L.length ⟨0, [], .slice none 0 0, .slice aS 1 cS, .slice none 0 0, .slice none 0 0, _, _, [], [sA + 2], [sA + 3], _, rfl, by omega, Nat.le_refl _, by simp, by simp, by simp; omega, by simp; omega, hc7, hc7, OwS.nil, by simp [tapeL], hI2, hV3, rfl, fun j hj => (by
    obtain rfl : j = 0 := by simpa using hj
    exact ⟨rfl, hc7⟩), fun _ => rfl, hr7.re (by simp [envTo, SX.look, den]) (hr7.all.take 2) rfl rfl⟩ ?_
  obtain ⟨s2, hs2⟩ : ∃ s2, sA + 1 = s2 := ⟨_, rfl⟩
  have hs12 : sA ≠ s2 := by omega
  have hs2w : w.heap.size ≤ sA ∧ w.heap.size ≤ s2 := by omega
  rw [hs2]
  rw [hc0]
  rw [hc0] at I0
  rintro m a8 w8 ⟨k, E, vL, vS, vW, v1, v2, v3, B1, B2, B3, X, rfl, hk, hEk, hEg, hB1, hB2, hB3, hC8, hD8, hT8, hTl, hI8, hV8, hXl, hX8, hnil, hr8⟩
  have z8 : w.heap.size ≤ w8.heap.size := hr8.keeps.size
  have q8 := hpLt hr8.all
  simp at q8
  obtain ⟨g1, j1, rfl⟩ := hT8.slice
  obtain ⟨g2, j2, rfl⟩ := hI8.slice
  obtain ⟨g3, j3, rfl⟩ := hV8.slice
  obtain ⟨uL, iL, rfl⟩ := hD8.1.slice
  obtain ⟨uS, iS, rfl⟩ := hD8.2.1.slice
  obtain ⟨uW, iW, rfl⟩ := hD8.2.2.slice
  have IE := inv_all E I0 fun x hx => hf1 x (hEg x hx).2
  obtain ⟨cE, hcE⟩ : ∃ cE, allC c0 E = cE := ⟨_, rfl⟩
  rw [hcE] at IE hD8 hr8
  by_cases hlt : k < L.length
  rotate_left
  · obtain rfl : k = L.length := by omega
    have hEn : E.length ≤ 100 := by omega
    have hel := endsL_len E
    have hEG : ∀ e ∈ E, goodE e := fun e h => (hEg e h).1
    have hpre : ∀ F : List Evt, (∀ e ∈ F, e ∈ E) → F.length ≤ 100 → ∀ k, k < F.length → Pre (allC c0 (F.take k)) (nth evt0 F k) := fun F hF hl k hk => by
      have h1 := inv_all (F.take k) I0 fun x hx => hf1 x (hEg x (hF x (List.mem_of_mem_take hx))).2
      exact h1.pre (by simp; omega) _
    have hsm := (I0.pre (by omega) evt0).sm
    have hsE := (IE.pre (by omega) evt0).sm
    have m2 : ∀ (u : World), ∀ x ∈ (frameAt u [(sA, true, .any), (s2, true, .any)]).M, x = sA ∨ x = s2 ∨ w8.heap.size ≤ x := by simp [frameAt, mutB] <;> omega
    have hE8 : EndS w w8.heap.size B1 B2 B3 sA s2 c0 cE _ _ _ _ _ _ _ _ _ E X w8 := ⟨hC8.mono fun x h0 h => ⟨h, h0⟩, hD8.mono fun x h0 h => ⟨h, h0⟩, hT8, hI8, hV8, fun j hj => (hX8 j hj).2.mono fun x h0 h => ⟨h, h0⟩, fun x hx => by have := hB1 x hx; omega, fun x hx => by have := hB2 x hx; omega, fun x hx => by have := hB3 x hx; omega⟩
    refine seg cfg6_ok mixed PanicFree.body 1000 [false] [] hr8.rebase (by first | trivial | exact HpRep.nil | assumption) (by kernel_rfl) fun s_ hs_ => ?_
    simp (maxSteps := 10000000) [SX.vc, SX.stop, SX.contS, SX.contB, SX.contW, SX.sxStep, SX.stepPure, SX.stepNew, SX.stepStore, SX.guardIx, SX.evOp, SX.opd, SX.look, SX.putS, SX.gobs, SX.AllP, SX.leave, SX.lookT, SX.evBin, SX.evInt, SX.evLoad, SX.shapeUp, SX.cellsV, SX.evNew, SX.evStore, SX.spliceL, SX.SV.cells, SX.popTo, SX.TD.isAgg, SX.NotAgg, Go.Value.cells, cfg6, coC]
    refine ⟨by (unfold SX.Ob; first | trivial | omega | ((try simp only [SX.inK]); (try simp [SX.den, SX.IsU8, SX.AllP, *]); (try omega))), ?_⟩
    intro a10 w10 hr10' _
    have hr10 := hr8.unbase hr10'
    have z10 : w8.heap.size ≤ w10.heap.size := hr10'.keeps.size
    have hE10 := hE8.keep hr10'.keeps (m2 w8)
    refine post_call 19 [.ag (coC c0 (.slice none 0 0) (.slice aS 1 cS) (.slice none 0 0)), .v (.slice g1 (tapeL E).length j1)] hr10 (wanted_none rfl) rfl (callable 19 Try.func19) (replay_ok w10 c0 E evt0 (tapeL E) _ _ _ _ hE10.C hE10.T.rd (tape_all hEG) (by omega) (by omega) hsm (hpre E (fun _ h => h) hEn)) ?_
    rintro e11 w11 ⟨vL1, vS1, vW1, he11, hF11, hb11⟩
    rw [hcE] at he11 hF11
    subst he11
    refine ⟨_, rfl, ?_⟩
    obtain ⟨fL, lL, rfl⟩ := hF11.1.slice
    obtain ⟨fS, lS, rfl⟩ := hF11.2.1.slice
    obtain ⟨fW, lW, rfl⟩ := hF11.2.2.slice
    have hr11 := hr10.ret hb11 75 (.tu [.ag (coC cE (.slice fL cE.T.L.length lL) (.slice fS cE.S.length lS) (.slice fW cE.W.length lW)), .v (.int .i64 E.length)]) rfl _ (hr10.all.below hb11) (by simp) rfl
    refine seg cfg6_ok mixed PanicFree.body 1000 [] [] hr11.rebase (by first | trivial | exact HpRep.nil | assumption) (by kernel_rfl) fun sC hsC => ?_
    simp (maxSteps := 10000000) [SX.vc, SX.stop, SX.contS, SX.contB, SX.contW, SX.sxStep, SX.stepPure, SX.stepNew, SX.stepStore, SX.guardIx, SX.evOp, SX.opd, SX.look, SX.putS, SX.gobs, SX.AllP, SX.leave, SX.lookT, SX.evBin, SX.evInt, SX.evLoad, SX.shapeUp, SX.cellsV, SX.evNew, SX.evStore, SX.spliceL, SX.SV.cells, SX.popTo, SX.TD.isAgg, SX.NotAgg, Go.Value.cells, cfg6, coC]
    refine ⟨by (unfold SX.Ob; first | trivial | omega | ((try simp only [SX.inK]); (try simp [SX.den, SX.IsU8, SX.AllP, *]); (try omega))), ?_⟩
    intro a12 w12 hr12' _
    have hr12 := hr11.unbase hr12'
    have z11 : w10.heap.size ≤ w11.heap.size := hb11.size
    have z12 : w11.heap.size ≤ w12.heap.size := hr12'.keeps.size
    have hE12 := (hE10.below hb11).keep hr12'.keeps (m2 w11)
    have hF12 : RdCo (fun x => w10.heap.size ≤ x) w12 (.slice fL cE.T.L.length lL) (.slice fS cE.S.length lS) (.slice fW cE.W.length lW) cE := RdCo.keepM' hF11 hr12'.keeps (by simp [mutB] <;> omega)
    have hsame := same_ok w12 cE cE (.slice uL cE.T.L.length iL) (.slice uS cE.S.length iS) (.slice uW cE.W.length iW) (.slice fL cE.T.L.length lL) (.slice fS cE.S.length lS) (.slice fW cE.W.length lW) hE12.D hF12 (by have := hsE.n1; omega) (by have := hsE.n3; omega) (by have := hsE.n4; omega)
    rw [decide_eq_true rfl] at hsame
    refine post_call 15 [.ag (coC cE (.slice uL cE.T.L.length iL) (.slice uS cE.S.length iS) (.slice uW cE.W.length iW)), .ag (coC cE (.slice fL cE.T.L.length lL) (.slice fS cE.S.length lS) (.slice fW cE.W.length lW))] hr12 (by first | exact wanted_none rfl | exact wanted_zero (hr12.env.same rfl rfl rfl rfl) rfl (by simp) | exact wanted_zero (hr12.env.same rfl rfl rfl rfl) rfl (by simp [*])) rfl (callable 15 Try.func15) (hsame) ?_
    rintro e13 w13 ⟨rfl, hb13⟩
    refine ⟨_, rfl, ?_⟩
    have hr13 := hr12.ret hb13 80 (.v (.bool true)) rfl _ (hr12.all.below hb13) (by simp) rfl
    obtain ⟨T, hTn⟩ : ∃ T : Nat, (tapeL E).length = T := ⟨_, rfl⟩
    have hT100 : T ≤ 8000 := by omega
    have c1 : -(T : Int) - 1 < cut.tmod (T + 1) ∧ cut.tmod (T + 1) < (T : Int) + 1 := ⟨by have := Int.lt_tmod_of_pos cut (show (0 : Int) < (T : Int) + 1 by omega); omega, Int.tmod_lt_of_pos _ (by omega)⟩
    obtain ⟨r1, hr1e⟩ : ∃ r1, cut.tmod ((T : Int) + 1) = r1 := ⟨_, rfl⟩
    rw [hr1e] at c1
    have c2 : 0 ≤ (r1 + T + 1).tmod ((T : Int) + 1) ∧ (r1 + T + 1).tmod ((T : Int) + 1) < (T : Int) + 1 := ⟨Int.tmod_nonneg _ (by omega), Int.tmod_lt_of_pos _ (by omega)⟩
    obtain ⟨cc, hcc⟩ : ∃ cc : Nat, (r1 + T + 1).tmod ((T : Int) + 1) = cc := ⟨_, (Int.toNat_of_nonneg c2.1).symm⟩
    rw [hcc] at c2
    have hccT : cc ≤ T := by omega
    refine seg cfg6_ok mixed PanicFree.body 1000 [false] [] hr13.rebase (by first | trivial | exact HpRep.nil | assumption) (by kernel_rfl) fun s_ hs_ => ?_
    simp (maxSteps := 10000000) [SX.vc, SX.stop, SX.contS, SX.contB, SX.sxStep, SX.stepPure, SX.guardIx, SX.evOp, SX.opd, SX.opds, SX.look, SX.putS, SX.gobs, SX.AllP, SX.leave, SX.lookC, SX.lookB, SX.lookT, SX.findK, SX.evBuiltin, SX.evBin, SX.evInt, SX.arith, SX.evUn, SX.evPick, SX.pickOpd, SX.cnd, cfg6, hel, hTn, hr1e, hcc]
    refine ⟨by (unfold SX.Ob; first | trivial | omega | ((try simp only [SX.inK]); (try simp [SX.den, SX.IsU8, SX.AllP, *]); (try omega))), ?_⟩
    intro a14 w14 hr14' _
    have hr14 := hr13.unbase hr14'
    have z13 : w12.heap.size ≤ w13.heap.size := hb13.size
    have z14 : w13.heap.size ≤ w14.heap.size := hr14'.keeps.size
    have q12 := hpLt hr12.all
    simp at q12
    have hsC8 : w8.heap.size ≤ sC := by omega
    have m3 : ∀ (u : World), ∀ x ∈ (frameAt u [(sA, true, .any), (s2, true, .any), (sC, true, .any)]).M, x = sA ∨ x = s2 ∨ w8.heap.size ≤ x := by simp [frameAt, mutB] <;> omega
    have hE14 := (hE12.below hb13).keep hr14'.keeps (m3 w13)
    obtain ⟨bI, NI, cI, uI, rowI, hPI, hvI, hcI0, hcI1, hcI2, hrepI, hrowI⟩ := hE14.I.opn (show 0 < (endsL E).length by omega)
    simp only [Value.slice.injEq] at hvI
    obtain ⟨hvI1, _, hvI2⟩ := hvI
    have q14 := hpLt hr14.all
    simp at q14
    have hrepI' : (SO.arr 0 (E.length + 1) (fun j => intC (nth 0 (endsL E) j)) 1 uI (0, 0)).rep w14 bI := rep_arr_sub hrepI (by omega) (fun j hj => by rw [hrowI j (by omega)])
    have hbI := hE14.b2 bI hPI
    have h15 := (hr14.top 14 (.sl 3 bI 0 0 (E.length + 1) cI 1) rfl (by simp [den, hvI1, hvI2])).see [(sA, true, .cells (coC c0 (.slice none 0 0) (.slice aS 1 cS) (.slice none 0 0)) 31), (s2, true, .cells (coC cE (.slice uL cE.T.L.length iL) (.slice uS cE.S.length iS) (.slice uW cE.W.length iW)) 31), (sC, true, .cells (coC cE (.slice fL cE.T.L.length lL) (.slice fS cE.S.length lS) (.slice fW cE.W.length lW)) 31), (bI, false, .arr 0 (E.length + 1) (fun j => intC (nth 0 (endsL E) j)) 1 uI (0, 0))] ⟨⟨hr14.all.1.1, hr14.all.1.2.1, by simp; omega⟩, ⟨hr14.all.2.1.1, hr14.all.2.1.2.1, by simp; omega⟩, ⟨hr14.all.2.2.1.1, hr14.all.2.2.1.2.1, by simp; omega⟩, ⟨hrepI', by simp, by simp⟩, trivial⟩
    refine post_loop (RpE w sA s2 sC cc c0 cE (.slice none 0 0) (.slice aS 1 cS) (.slice none 0 0) (.slice uL cE.T.L.length iL) (.slice uS cE.S.length iS) (.slice uW cE.W.length iW) (coC cE (.slice fL cE.T.L.length lL) (.slice fS cE.S.length lS) (.slice fW cE.W.length lW)) g1 g3 T j1 j3 bI NI cI uI E X (EndS w w8.heap.size B1 B2 B3 sA s2 c0 cE (.slice none 0 0) (.slice aS 1 cS) (.slice none 0 0) (.slice uL cE.T.L.length iL) (.slice uS cE.S.length iS) (.slice uW cE.W.length iW) (.slice g1 T j1) (.slice g2 (endsL E).length j2) (.slice g3 X.length j3) E X)) E.length ⟨0, rfl, by omega, by simp [endN, tapeL], by rw [← hTn]; exact hE14, h15.re (by simp [envTo, SX.look, den]) h15.all rfl rfl⟩ ?_
    rintro m a15 w15 ⟨i, rfl, hi, hci, hE15, hr15⟩
    have z15 : w.heap.size ≤ w15.heap.size := hr15.keeps.size
    have hJ : ∀ {u' : World}, KeepsTo w15 (frameAt w15 [(sA, true, .any), (s2, true, .any), (sC, true, .any), (bI, false, .any)]).M u' → EndS w w8.heap.size B1 B2 B3 sA s2 c0 cE (.slice none 0 0) (.slice aS 1 cS) (.slice none 0 0) (.slice uL cE.T.L.length iL) (.slice uS cE.S.length iS) (.slice uW cE.W.length iW) (.slice g1 T j1) (.slice g2 (endsL E).length j2) (.slice g3 X.length j3) E X u' := fun hk => hE15.keep hk (by simp [frameAt, mutB] <;> omega)
    by_cases hgo : i < E.length ∧ endN E (i + 1) ≤ cc
    · obtain ⟨hgo1, hgo2⟩ := hgo
      have hnx : nth (0 : Int) (endsL E) (i + 1) = endN E (i + 1) := endsL_nth (by omega)
      have hto : ((i : Int) + 1).toNat = i + 1 := by omega
      refine seg cfg6_ok mixed PanicFree.body 1000 [true] [(107, true)] hr15.rebase (by first | trivial | exact HpRep.nil | assumption) (by kernel_rfl) fun s_ hs_ => ?_
      simp (maxSteps := 10000000) [SX.vc, SX.stop, SX.contS, SX.contB, SX.sxStep, SX.stepPure, SX.guardIx, SX.evOp, SX.opd, SX.opds, SX.look, SX.putS, SX.gobs, SX.AllP, SX.leave, SX.lookB, SX.lookT, SX.evBuiltin, SX.evBin, SX.evInt, SX.arith, SX.evLoad, SX.shapeUp, SX.evIndexAddr, SX.evPick, SX.cnd, SX.TD.isAgg, cfg6, intC, hnx, hto]
      refine ⟨by (unfold SX.Ob; first | trivial | omega | ((try simp only [SX.inK]); (try simp [SX.den, SX.IsU8, SX.AllP, *]); (try omega))), ?_⟩
      intro a16 w16 hr16' _
      have hr16 := hr15.unbase hr16'
      exact post_rnd (E.length - (i + 1)) (by omega) ⟨i + 1, rfl, hgo1, hgo2, hJ hr16'.keeps, hr16.re (by simp [envTo, SX.look, den]) hr16.all rfl rfl⟩
    obtain ⟨bV, NV, cV, uV, rowV, hPV, hvV, hcV0, hcV1, hcV2, hrepV0, hrowV⟩ := hE15.V.opn (show 0 < X.length by omega)
    simp only [Value.slice.injEq] at hvV
    obtain ⟨hvV1, _, hvV2⟩ := hvV
    have hrepV : (SO.arr 0 (E.length + 1) (fun j => covC (nth cov0 X j)) 7 uV (0, 0)).rep w15 bV := rep_arr_sub hrepV0 (by omega) (fun j hj => by rw [hrowV j (by omega)])
    have hlk : (E.take i).length = i := by simp; omega
    have q15 := hpLt hr15.all
    simp at q15
    have dV := hE15.b3 bV hPV
    have dI := hE15.b2 bI hPI
    have dIV : bI ≠ bV := fun h => (hB2 bI hPI).2.2.2.2 (h ▸ hPV)
    have h3c : i < E.length → cc < endN E (i + 1) := fun h => by
      by_cases h2 : endN E (i + 1) ≤ cc
      · exact absurd ⟨h, h2⟩ hgo
      · omega
    obtain ⟨x, hTx⟩ := tape_cut hEG hi hci (fun _ => by omega) h3c
    have hkl : ((tapeL E).take cc).length = cc := by simp; omega
    obtain ⟨ck, hck⟩ : ∃ ck, allC c0 (E.take i) = ck := ⟨_, rfl⟩
    have hIk := inv_all (E.take i) I0 fun x hx => hf1 x (hEg x (List.mem_of_mem_take hx)).2
    rw [hck] at hIk
    obtain ⟨hq1, hq2⟩ := hX8 i hi
    obtain ⟨q, hq⟩ : ∃ q, nth cov0 X i = q := ⟨_, rfl⟩
    rw [hq, hck] at hq1 hq2
    obtain ⟨qc, qL, qS, qW⟩ := q
    simp only at hq1 hq2
    subst hq1
    obtain ⟨pL, oL, rfl⟩ := hq2.1.slice
    obtain ⟨pS, oS, rfl⟩ := hq2.2.1.slice
    obtain ⟨pW, oW, rfl⟩ := hq2.2.2.slice
    have hrepl := fun (w' : World) (vB : Value) (hB : RdU (fun x => x ∈ B1) w' vB ((tapeL E).take cc)) (hC : RdCo (fun x => FarP w B1 B2 B3 sA s2 x ∧ x < w8.heap.size) w' (.slice none 0 0) (.slice aS 1 cS) (.slice none 0 0) c0) => replay_ok w' c0 (E.take i) x ((tapeL E).take cc) _ _ _ vB hC hB hTx (by omega) (by omega) hsm (hpre (E.take i) (fun _ h => List.mem_of_mem_take h) (by omega))
    by_cases hE0 : E = []
    · have hT0 : T = 0 := by rw [← hTn, hE0]; rfl
      have hi0 : i = E.length := by rw [hE0] at hi ⊢; simpa using hi
      have hv0 := hnil hE0
      simp only [Value.slice.injEq] at hv0
      obtain ⟨hg1, _, hj1⟩ := hv0
      have hc0z : cc = 0 := by omega
      have h17 := ((hr15.top 13 (.v (.slice none 0 0)) rfl (by rw [hg1, hj1, hT0])).top 15 (.sl 4 bV 0 0 X.length j3 7) rfl (by simp [den, hvV1])).see [(sA, true, .cells (coC c0 (.slice none 0 0) (.slice aS 1 cS) (.slice none 0 0)) 31), (s2, true, .cells (coC cE (.slice uL cE.T.L.length iL) (.slice uS cE.S.length iS) (.slice uW cE.W.length iW)) 31), (sC, true, .cells (coC cE (.slice fL cE.T.L.length lL) (.slice fS cE.S.length lS) (.slice fW cE.W.length lW)) 31), (bI, false, .arr 0 (E.length + 1) (fun j => intC (nth 0 (endsL E) j)) 1 uI (0, 0)), (bV, false, .arr 0 (E.length + 1) (fun j => covC (nth cov0 X j)) 7 uV (0, 0))] ⟨⟨hr15.all.1.1, hr15.all.1.2.1, by simp; omega⟩, ⟨hr15.all.2.1.1, hr15.all.2.1.2.1, by simp; omega⟩, ⟨hr15.all.2.2.1.1, hr15.all.2.2.1.2.1, by simp; omega⟩, ⟨hr15.all.2.2.2.1.1, by simp, by simp; omega⟩, ⟨hrepV, by simp, by simp⟩, trivial⟩
      refine seg cfg6_ok mixed PanicFree.body 1000 [false] [(107, false)] h17.rebase (by first | trivial | exact HpRep.nil | assumption) (by kernel_rfl) fun s_ hs_ => ?_
      simp (maxSteps := 10000000) [SX.vc, SX.stop, SX.contS, SX.contB, SX.contW, SX.contR, SX.contD, SX.sxStep, SX.stepPure, SX.stepNew, SX.stepKeep, SX.guardIx, SX.evOp, SX.opd, SX.opds, SX.optOpd, SX.look, SX.putS, SX.gobs, SX.AllP, SX.leave, SX.lookB, SX.lookT, SX.lookN, SX.evBuiltin, SX.evBin, SX.evInt, SX.arith, SX.evLoad, SX.shapeUp, SX.evNew, SX.evSlice, SX.bnd, SX.evPick, SX.popTo, SX.cnd, SX.TD.isAgg, SX.thaw, Go.undef, cfg6, coC, intC, hc0z]
      refine ⟨by (unfold SX.Ob; first | trivial | omega | ((try simp only [SX.inK]); (try simp [SX.den, SX.IsU8, SX.AllP, *]); (try omega))), ?_⟩
      intro a17 w17 hr17' ht17
      have hr17 := h17.unbase hr17'
      have hE17 := hE15.keep hr17'.keeps (by simp [mutB] <;> omega)
      have hB17 : RdU (fun x => x ∈ B1) w17 (.slice none 0 0) ((tapeL E).take cc) := by
        rw [hc0z]
        exact .inl ⟨rfl, _, _, rfl⟩
      have hrp := hrepl w17 _ hB17 hE17.C
      refine post_callD 19 [.ag (coC c0 (.slice none 0 0) (.slice aS 1 cS) (.slice none 0 0)), .v (.slice none 0 0)] hr17 rfl (wanted_none rfl) rfl (callable 19 Try.func19) hrp ?_
      rintro e18 w18 ⟨vL2, vS2, vW2, he18, hF18, hb18⟩
      rw [hlk] at he18
      rw [hck] at he18 hF18
      subst he18
      have ht18 := HpRep_below ht17 hb18
      refine ⟨_, rfl, ht18, ?_⟩
      obtain ⟨tL, yL, rfl⟩ := hF18.1.slice
      obtain ⟨tS, yS, rfl⟩ := hF18.2.1.slice
      obtain ⟨tW, yW, rfl⟩ := hF18.2.2.slice
      have hr18 := hr17.ret hb18 123 (.tu [.ag (coC qc (.slice tL qc.T.L.length yL) (.slice tS qc.S.length yS) (.slice tW qc.W.length yW)), .v (.int .i64 i)]) rfl _ (hr17.all.below hb18) (by simp) rfl
      refine seg cfg6_ok mixed PanicFree.body 1000 [] [(127, true), (132, true)] hr18.rebase (by first | trivial | exact HpRep.nil | assumption) (by kernel_rfl) fun s_ hs_ => ?_
      simp (maxSteps := 10000000) [SX.vc, SX.stop, SX.contS, SX.contR, SX.contD, SX.sxStep, SX.stepPure, SX.stepNew, SX.stepStore, SX.stepKeep, SX.guardIx, SX.evOp, SX.opd, SX.look, SX.putS, SX.gobs, SX.AllP, SX.leave, SX.lookB, SX.lookT, SX.lookN, SX.evBin, SX.evInt, SX.evLoad, SX.shapeUp, SX.evIndexAddr, SX.evNew, SX.evStore, SX.spliceL, SX.SV.cells, SX.evPick, SX.cnd, SX.TD.isAgg, SX.tails, SX.NotAgg, SX.thaw, SX.frz, SX.Froz, SX.frzStep, cfg6, coC, covC, hq]
      refine ⟨by (unfold SX.Ob; first | trivial | omega | ((try simp only [SX.inK]); (try simp [SX.den, SX.IsU8, SX.AllP, *]); (try omega))), ?_⟩
      intro a19 w19 hr19' ht19
      have hr19 := hr18.unbase hr19'
      have z16 : w15.heap.size ≤ w17.heap.size := hr17'.keeps.size
      have hE19 := (hE17.below hb18).keep hr19'.keeps (by simp [mutB] <;> omega)
      have hq19 := hE19.X i hi
      rw [hq, hck] at hq19
      have hF19 : RdCo (fun x => w17.heap.size ≤ x) w19 (.slice tL qc.T.L.length yL) (.slice tS qc.S.length yS) (.slice tW qc.W.length yW) qc := RdCo.keepM' hF18 hr19'.keeps (by simp [mutB] <;> omega)
      have hsame := same_ok w19 qc qc (.slice tL qc.T.L.length yL) (.slice tS qc.S.length yS) (.slice tW qc.W.length yW) (.slice pL qc.T.L.length oL) (.slice pS qc.S.length oS) (.slice pW qc.W.length oW) hF19 hq19 (by have := (hIk.pre (by omega) evt0).sm.n1; omega) (by have := (hIk.pre (by omega) evt0).sm.n3; omega) (by have := (hIk.pre (by omega) evt0).sm.n4; omega)
      rw [decide_eq_true rfl] at hsame
      refine post_callD 15 [.ag (coC qc (.slice tL qc.T.L.length yL) (.slice tS qc.S.length yS) (.slice tW qc.W.length yW)), .ag (coC qc (.slice pL qc.T.L.length oL) (.slice pS qc.S.length oS) (.slice pW qc.W.length oW))] hr19 rfl (by first | exact wanted_none rfl | exact wanted_zero (hr19.env.same rfl rfl rfl rfl) rfl (by simp) | exact wanted_zero (hr19.env.same rfl rfl rfl rfl) rfl (by simp [*])) rfl (callable 15 Try.func15) (hsame) ?_
      rintro e20 w20 ⟨rfl, hb20⟩
      have ht20 := HpRep_below ht19 hb20
      refine ⟨_, rfl, ht20, ?_⟩
      have hr20 := hr19.ret hb20 138 (.v (.bool true)) rfl _ (hr19.all.below hb20) (by simp) rfl
      refine seg cfg6_ok mixed PanicFree.body 1000 [] [] hr20.rebase (by first | trivial | exact HpRep.nil | assumption) (by kernel_rfl) fun s_ hs_ => ?_
      simp (maxSteps := 10000000) [SX.vc, SX.stop, SX.contS, SX.contD, SX.stepPure, SX.guardIx, SX.evOp, SX.opd, SX.look, SX.putS, SX.gobs, SX.AllP, SX.leave, SX.lookB, SX.evPick, SX.pickOpd, cfg6]
      refine ⟨by (unfold SX.Ob; first | trivial | omega | ((try simp only [SX.inK]); (try simp [SX.den, SX.IsU8, SX.AllP, *]); (try omega))), ?_⟩
      intro a21 w21 hr21' _
      have hr21 := hr20.unbase hr21'
      exact post_retn (end1 hr21 rfl rfl ⟨rfl, hr21.keeps.toBelow⟩).1
    obtain ⟨bT, NT, cT, uT, rowT, hPT, hvT, hcT0, hcT1, hcT2, hrepT0, hrowT⟩ := hE15.T.opn (tape_pos hE0)
    simp only [Value.slice.injEq] at hvT
    obtain ⟨hvT1, _, hvT2⟩ := hvT
    have dT := hE15.b1 bT hPT
    have dTI : bI ≠ bT := fun h => (hB1 bT hPT).2.2.2.2.1 (h ▸ hPI)
    have dTV : bV ≠ bT := fun h => (hB1 bT hPT).2.2.2.2.2 (h ▸ hPV)
    have hrepT : (SO.arr 0 T (fun j => u8C (nth 0 (tapeL E) j)) 1 uT (0, 0)).rep w15 bT := rep_arr_sub hrepT0 (by omega) (fun j hj => by rw [hrowT j (by omega)])
    by_cases hi0 : i = E.length
    · have hTc : ¬ ((i : Int) + 1 < (E.length : Int) + 1) := by omega
      have h17 := ((hr15.top 13 (.sl 5 bT 0 0 T j1 1) rfl (by simp [den, hvT1])).top 15 (.sl 4 bV 0 0 X.length j3 7) rfl (by simp [den, hvV1])).see [(sA, true, .cells (coC c0 (.slice none 0 0) (.slice aS 1 cS) (.slice none 0 0)) 31), (s2, true, .cells (coC cE (.slice uL cE.T.L.length iL) (.slice uS cE.S.length iS) (.slice uW cE.W.length iW)) 31), (sC, true, .cells (coC cE (.slice fL cE.T.L.length lL) (.slice fS cE.S.length lS) (.slice fW cE.W.length lW)) 31), (bI, false, .arr 0 (E.length + 1) (fun j => intC (nth 0 (endsL E) j)) 1 uI (0, 0)), (bV, false, .arr 0 (E.length + 1) (fun j => covC (nth cov0 X j)) 7 uV (0, 0)), (bT, false, .arr 0 T (fun j => u8C (nth 0 (tapeL E) j)) 1 uT (0, 0))] ⟨⟨hr15.all.1.1, hr15.all.1.2.1, by simp; omega⟩, ⟨hr15.all.2.1.1, hr15.all.2.1.2.1, by simp; omega⟩, ⟨hr15.all.2.2.1.1, hr15.all.2.2.1.2.1, by simp; omega⟩, ⟨hr15.all.2.2.2.1.1, by simp, by simp; omega⟩, ⟨hrepV, by simp, by simp; omega⟩, ⟨hrepT, by simp, by simp⟩, trivial⟩
      refine seg cfg6_ok mixed PanicFree.body 1000 [false] [(107, false)] h17.rebase (by first | trivial | exact HpRep.nil | assumption) (by kernel_rfl) fun s_ hs_ => ?_
      simp (maxSteps := 10000000) [SX.vc, SX.stop, SX.contS, SX.contB, SX.contW, SX.contR, SX.contD, SX.sxStep, SX.stepPure, SX.stepNew, SX.stepKeep, SX.guardIx, SX.evOp, SX.opd, SX.opds, SX.optOpd, SX.look, SX.putS, SX.gobs, SX.AllP, SX.leave, SX.lookB, SX.lookT, SX.lookN, SX.evBuiltin, SX.evBin, SX.evInt, SX.arith, SX.evLoad, SX.shapeUp, SX.evNew, SX.evSlice, SX.bnd, SX.evPick, SX.popTo, SX.cnd, SX.TD.isAgg, SX.thaw, Go.undef, cfg6, coC, intC]
      refine ⟨by (unfold SX.Ob; first | trivial | omega | ((try simp only [SX.inK]); (try simp [SX.den, SX.IsU8, SX.AllP, *]); (try omega))), ?_⟩
      intro a17 w17 hr17' ht17
      have hr17 := h17.unbase hr17'
      have hE17 := hE15.keep hr17'.keeps (by simp [mutB] <;> omega)
      have hB17 : RdU (fun x => x ∈ B1) w17 (.slice (some ⟨bT, 0, none⟩) cc j1) ((tapeL E).take cc) := by
        have h := RdS.part (enc := u8C) (d := 0) (L := tapeL E) (base := 0) (len := cc) (cap := j1) (P := fun x => x ∈ B1) hPT hTn.symm hr17.all.2.2.2.2.2.1.1 (by omega) (by omega)
        simpa using h
      have hrp := hrepl w17 _ hB17 hE17.C
      refine post_callD 19 [.ag (coC c0 (.slice none 0 0) (.slice aS 1 cS) (.slice none 0 0)), .sl 5 bT 0 0 cc j1 1] hr17 rfl (wanted_none rfl) rfl (callable 19 Try.func19) hrp ?_
      rintro e18 w18 ⟨vL2, vS2, vW2, he18, hF18, hb18⟩
      rw [hlk] at he18
      rw [hck] at he18 hF18
      subst he18
      have ht18 := HpRep_below ht17 hb18
      refine ⟨_, rfl, ht18, ?_⟩
      obtain ⟨tL, yL, rfl⟩ := hF18.1.slice
      obtain ⟨tS, yS, rfl⟩ := hF18.2.1.slice
      obtain ⟨tW, yW, rfl⟩ := hF18.2.2.slice
      have hr18 := hr17.ret hb18 123 (.tu [.ag (coC qc (.slice tL qc.T.L.length yL) (.slice tS qc.S.length yS) (.slice tW qc.W.length yW)), .v (.int .i64 i)]) rfl _ (hr17.all.below hb18) (by simp) rfl
      refine seg cfg6_ok mixed PanicFree.body 1000 [] [(127, true), (132, true)] hr18.rebase (by first | trivial | exact HpRep.nil | assumption) (by kernel_rfl) fun s_ hs_ => ?_
      simp (maxSteps := 10000000) [SX.vc, SX.stop, SX.contS, SX.contR, SX.contD, SX.sxStep, SX.stepPure, SX.stepNew, SX.stepStore, SX.stepKeep, SX.guardIx, SX.evOp, SX.opd, SX.look, SX.putS, SX.gobs, SX.AllP, SX.leave, SX.lookB, SX.lookT, SX.lookN, SX.evBin, SX.evInt, SX.evLoad, SX.shapeUp, SX.evIndexAddr, SX.evNew, SX.evStore, SX.spliceL, SX.SV.cells, SX.evPick, SX.cnd, SX.TD.isAgg, SX.tails, SX.NotAgg, SX.thaw, SX.frz, SX.Froz, SX.frzStep, cfg6, coC, covC, hq]
      refine ⟨by (unfold SX.Ob; first | trivial | omega | ((try simp only [SX.inK]); (try simp [SX.den, SX.IsU8, SX.AllP, *]); (try omega))), ?_⟩
      intro a19 w19 hr19' ht19
      have hr19 := hr18.unbase hr19'
      have z16 : w15.heap.size ≤ w17.heap.size := hr17'.keeps.size
      have hE19 := (hE17.below hb18).keep hr19'.keeps (by simp [mutB] <;> omega)
      have hq19 := hE19.X i hi
      rw [hq, hck] at hq19
      have hF19 : RdCo (fun x => w17.heap.size ≤ x) w19 (.slice tL qc.T.L.length yL) (.slice tS qc.S.length yS) (.slice tW qc.W.length yW) qc := RdCo.keepM' hF18 hr19'.keeps (by simp [mutB] <;> omega)
      have hsame := same_ok w19 qc qc (.slice tL qc.T.L.length yL) (.slice tS qc.S.length yS) (.slice tW qc.W.length yW) (.slice pL qc.T.L.length oL) (.slice pS qc.S.length oS) (.slice pW qc.W.length oW) hF19 hq19 (by have := (hIk.pre (by omega) evt0).sm.n1; omega) (by have := (hIk.pre (by omega) evt0).sm.n3; omega) (by have := (hIk.pre (by omega) evt0).sm.n4; omega)
      rw [decide_eq_true rfl] at hsame
      refine post_callD 15 [.ag (coC qc (.slice tL qc.T.L.length yL) (.slice tS qc.S.length yS) (.slice tW qc.W.length yW)), .ag (coC qc (.slice pL qc.T.L.length oL) (.slice pS qc.S.length oS) (.slice pW qc.W.length oW))] hr19 rfl (by first | exact wanted_none rfl | exact wanted_zero (hr19.env.same rfl rfl rfl rfl) rfl (by simp) | exact wanted_zero (hr19.env.same rfl rfl rfl rfl) rfl (by simp [*])) rfl (callable 15 Try.func15) (hsame) ?_
      rintro e20 w20 ⟨rfl, hb20⟩
      have ht20 := HpRep_below ht19 hb20
      refine ⟨_, rfl, ht20, ?_⟩
      have hr20 := hr19.ret hb20 138 (.v (.bool true)) rfl _ (hr19.all.below hb20) (by simp) rfl
      refine seg cfg6_ok mixed PanicFree.body 1000 [] [] hr20.rebase (by first | trivial | exact HpRep.nil | assumption) (by kernel_rfl) fun s_ hs_ => ?_
      simp (maxSteps := 10000000) [SX.vc, SX.stop, SX.contS, SX.contD, SX.stepPure, SX.guardIx, SX.evOp, SX.opd, SX.look, SX.putS, SX.gobs, SX.AllP, SX.leave, SX.lookB, SX.evPick, SX.pickOpd, cfg6]
      refine ⟨by (unfold SX.Ob; first | trivial | omega | ((try simp only [SX.inK]); (try simp [SX.den, SX.IsU8, SX.AllP, *]); (try omega))), ?_⟩
      intro a21 w21 hr21' _
      have hr21 := hr20.unbase hr21'
      exact post_retn (end1 hr21 rfl rfl ⟨rfl, hr21.keeps.toBelow⟩).1
    · have hnx : nth (0 : Int) (endsL E) (i + 1) = endN E (i + 1) := endsL_nth (by omega)
      have hto : ((i : Int) + 1).toNat = i + 1 := by omega
      have h3d := h3c (by omega)
      have h17 := ((hr15.top 13 (.sl 5 bT 0 0 T j1 1) rfl (by simp [den, hvT1])).top 15 (.sl 4 bV 0 0 X.length j3 7) rfl (by simp [den, hvV1])).see [(sA, true, .cells (coC c0 (.slice none 0 0) (.slice aS 1 cS) (.slice none 0 0)) 31), (s2, true, .cells (coC cE (.slice uL cE.T.L.length iL) (.slice uS cE.S.length iS) (.slice uW cE.W.length iW)) 31), (sC, true, .cells (coC cE (.slice fL cE.T.L.length lL) (.slice fS cE.S.length lS) (.slice fW cE.W.length lW)) 31), (bI, false, .arr 0 (E.length + 1) (fun j => intC (nth 0 (endsL E) j)) 1 uI (0, 0)), (bV, false, .arr 0 (E.length + 1) (fun j => covC (nth cov0 X j)) 7 uV (0, 0)), (bT, false, .arr 0 T (fun j => u8C (nth 0 (tapeL E) j)) 1 uT (0, 0))] ⟨⟨hr15.all.1.1, hr15.all.1.2.1, by simp; omega⟩, ⟨hr15.all.2.1.1, hr15.all.2.1.2.1, by simp; omega⟩, ⟨hr15.all.2.2.1.1, hr15.all.2.2.1.2.1, by simp; omega⟩, ⟨hr15.all.2.2.2.1.1, by simp, by simp; omega⟩, ⟨hrepV, by simp, by simp; omega⟩, ⟨hrepT, by simp, by simp⟩, trivial⟩
      refine seg cfg6_ok mixed PanicFree.body 1000 [false] [(107, true)] h17.rebase (by first | trivial | exact HpRep.nil | assumption) (by kernel_rfl) fun s_ hs_ => ?_
      simp (maxSteps := 10000000) [SX.vc, SX.stop, SX.contS, SX.contB, SX.contW, SX.contR, SX.contD, SX.sxStep, SX.stepPure, SX.stepNew, SX.stepKeep, SX.guardIx, SX.evOp, SX.opd, SX.opds, SX.optOpd, SX.look, SX.putS, SX.gobs, SX.AllP, SX.leave, SX.lookB, SX.lookT, SX.lookN, SX.evBuiltin, SX.evBin, SX.evInt, SX.arith, SX.evLoad, SX.shapeUp, SX.evIndexAddr, SX.evNew, SX.evSlice, SX.bnd, SX.evPick, SX.popTo, SX.cnd, SX.TD.isAgg, SX.thaw, cfg6, coC, intC, hnx, hto]
      refine ⟨by (unfold SX.Ob; first | trivial | omega | ((try simp only [SX.inK]); (try simp [SX.den, SX.IsU8, SX.AllP, *]); (try omega))), ?_⟩
      intro a17 w17 hr17' ht17
      have hr17 := h17.unbase hr17'
      have hE17 := hE15.keep hr17'.keeps (by simp [mutB] <;> omega)
      have hB17 : RdU (fun x => x ∈ B1) w17 (.slice (some ⟨bT, 0, none⟩) cc j1) ((tapeL E).take cc) := by
        have h := RdS.part (enc := u8C) (d := 0) (L := tapeL E) (base := 0) (len := cc) (cap := j1) (P := fun x => x ∈ B1) hPT hTn.symm hr17.all.2.2.2.2.2.1.1 (by omega) (by omega)
        simpa using h
      have hrp := hrepl w17 _ hB17 hE17.C
      refine post_callD 19 [.ag (coC c0 (.slice none 0 0) (.slice aS 1 cS) (.slice none 0 0)), .sl 5 bT 0 0 cc j1 1] hr17 rfl (wanted_none rfl) rfl (callable 19 Try.func19) hrp ?_
      rintro e18 w18 ⟨vL2, vS2, vW2, he18, hF18, hb18⟩
      rw [hlk] at he18
      rw [hck] at he18 hF18
      subst he18
      have ht18 := HpRep_below ht17 hb18
      refine ⟨_, rfl, ht18, ?_⟩
      obtain ⟨tL, yL, rfl⟩ := hF18.1.slice
      obtain ⟨tS, yS, rfl⟩ := hF18.2.1.slice
      obtain ⟨tW, yW, rfl⟩ := hF18.2.2.slice
      have hr18 := hr17.ret hb18 123 (.tu [.ag (coC qc (.slice tL qc.T.L.length yL) (.slice tS qc.S.length yS) (.slice tW qc.W.length yW)), .v (.int .i64 i)]) rfl _ (hr17.all.below hb18) (by simp) rfl
      refine seg cfg6_ok mixed PanicFree.body 1000 [] [(127, true), (132, true)] hr18.rebase (by first | trivial | exact HpRep.nil | assumption) (by kernel_rfl) fun s_ hs_ => ?_
      simp (maxSteps := 10000000) [SX.vc, SX.stop, SX.contS, SX.contR, SX.contD, SX.sxStep, SX.stepPure, SX.stepNew, SX.stepStore, SX.stepKeep, SX.guardIx, SX.evOp, SX.opd, SX.look, SX.putS, SX.gobs, SX.AllP, SX.leave, SX.lookB, SX.lookT, SX.lookN, SX.evBin, SX.evInt, SX.evLoad, SX.shapeUp, SX.evIndexAddr, SX.evNew, SX.evStore, SX.spliceL, SX.SV.cells, SX.evPick, SX.cnd, SX.TD.isAgg, SX.tails, SX.NotAgg, SX.thaw, SX.frz, SX.Froz, SX.frzStep, cfg6, coC, covC, hq]
      refine ⟨by (unfold SX.Ob; first | trivial | omega | ((try simp only [SX.inK]); (try simp [SX.den, SX.IsU8, SX.AllP, *]); (try omega))), ?_⟩
      intro a19 w19 hr19' ht19
      have hr19 := hr18.unbase hr19'
      have z16 : w15.heap.size ≤ w17.heap.size := hr17'.keeps.size
      have hE19 := (hE17.below hb18).keep hr19'.keeps (by simp [mutB] <;> omega)
      have hq19 := hE19.X i hi
      rw [hq, hck] at hq19
      have hF19 : RdCo (fun x => w17.heap.size ≤ x) w19 (.slice tL qc.T.L.length yL) (.slice tS qc.S.length yS) (.slice tW qc.W.length yW) qc := RdCo.keepM' hF18 hr19'.keeps (by simp [mutB] <;> omega)
      have hsame := same_ok w19 qc qc (.slice tL qc.T.L.length yL) (.slice tS qc.S.length yS) (.slice tW qc.W.length yW) (.slice pL qc.T.L.length oL) (.slice pS qc.S.length oS) (.slice pW qc.W.length oW) hF19 hq19 (by have := (hIk.pre (by omega) evt0).sm.n1; omega) (by have := (hIk.pre (by omega) evt0).sm.n3; omega) (by have := (hIk.pre (by omega) evt0).sm.n4; omega)
      rw [decide_eq_true rfl] at hsame
      refine post_callD 15 [.ag (coC qc (.slice tL qc.T.L.length yL) (.slice tS qc.S.length yS) (.slice tW qc.W.length yW)), .ag (coC qc (.slice pL qc.T.L.length oL) (.slice pS qc.S.length oS) (.slice pW qc.W.length oW))] hr19 rfl (by first | exact wanted_none rfl | exact wanted_zero (hr19.env.same rfl rfl rfl rfl) rfl (by simp) | exact wanted_zero (hr19.env.same rfl rfl rfl rfl) rfl (by simp [*])) rfl (callable 15 Try.func15) (hsame) ?_
      rintro e20 w20 ⟨rfl, hb20⟩
      have ht20 := HpRep_below ht19 hb20
      refine ⟨_, rfl, ht20, ?_⟩
      have hr20 := hr19.ret hb20 138 (.v (.bool true)) rfl _ (hr19.all.below hb20) (by simp) rfl
      refine seg cfg6_ok mixed PanicFree.body 1000 [] [] hr20.rebase (by first | trivial | exact HpRep.nil | assumption) (by kernel_rfl) fun s_ hs_ => ?_
      simp (maxSteps := 10000000) [SX.vc, SX.stop, SX.contS, SX.contD, SX.stepPure, SX.guardIx, SX.evOp, SX.opd, SX.look, SX.putS, SX.gobs, SX.AllP, SX.leave, SX.lookB, SX.evPick, SX.pickOpd, cfg6]
      refine ⟨by (unfold SX.Ob; first | trivial | omega | ((try simp only [SX.inK]); (try simp [SX.den, SX.IsU8, SX.AllP, *]); (try omega))), ?_⟩
      intro a21 w21 hr21' _
      have hr21 := hr20.unbase hr21'
      exact post_retn (end1 hr21 rfl rfl ⟨rfl, hr21.keeps.toBelow⟩).1
  obtain ⟨b, o0, cap, u, fz, hP, hv, hrep⟩ := hL.opn hlt
  simp only [Value.slice.injEq] at hv
  obtain ⟨hv1, _, hv2⟩ := hv
  have hbw := SO.rep_lt hrep
  have hrep8 := SO.rep_same hrep (hr8.keeps.toBelow.block _ hbw)
  obtain ⟨e, he⟩ : ∃ e, nth evt0 L k = e := ⟨_, rfl⟩
  have hem : e ∈ L := he ▸ nth_mem hlt
  have hB1w : ∀ x, x ∈ B1 → w.heap.size ≤ x ∧ x < w8.heap.size ∧ x ≠ sA ∧ x ≠ s2 ∧ x ∉ B2 ∧ x ∉ B3 := hB1
  have far8 : ∀ {w1 w2 : World} {M : List Nat} {vL vS vW : Value} {c : Co}, RdCo (fun x => FarP w B1 B2 B3 sA s2 x ∧ x < w8.heap.size) w1 vL vS vW c → KeepsTo w1 M w2 → (∀ x ∈ M, x = sA ∨ x = s2 ∨ x ∈ B1 ∨ x ∈ B2 ∨ x ∈ B3 ∨ w8.heap.size ≤ x) → RdCo (fun x => FarP w B1 B2 B3 sA s2 x ∧ x < w8.heap.size) w2 vL vS vW c := fun h hk hM => RdCo.keepM' h hk fun x hx hq => by
    obtain ⟨⟨_, f1, f2, f3, f4, f5⟩, f6⟩ := hq
    rcases hM x hx with h | h | h | h | h | h
    · exact f4 h
    · exact f5 h
    · exact f1 h
    · exact f2 h
    · exact f3 h
    · omega
  have own1 : ∀ {w1 w2 : World} {M : List Nat} {v : Value} {T : List Nat}, OwU (fun x => x ∈ B1) w1 v T → KeepsTo w1 M w2 → (∀ x ∈ M, x = sA ∨ x = s2 ∨ w8.heap.size ≤ x) → OwU (fun x => x ∈ B1) w2 v T := fun h hk hM => h.keep hk fun x hx hq => by
    have h1 := hB1 x hq
    have h2 := hM x hx
    omega
  have own2 : ∀ {w1 w2 : World} {M : List Nat} {v : Value} {T : List Int}, OwI (fun x => x ∈ B2) w1 v T → KeepsTo w1 M w2 → (∀ x ∈ M, x = sA ∨ x = s2 ∨ x ∈ B1 ∨ w8.heap.size ≤ x) → OwI (fun x => x ∈ B2) w2 v T := fun h hk hM => h.keep hk fun x hx hq => by
    have h1 := hB2 x hq
    rcases hM x hx with h | h | h | h
    · omega
    · omega
    · exact (hB1 x h).2.2.2.2.1 hq
    · omega
  have own3 : ∀ {w1 w2 : World} {M : List Nat} {v : Value} {T : List Cov}, OwV (fun x => x ∈ B3) w1 v T → KeepsTo w1 M w2 → (∀ x ∈ M, x = sA ∨ x = s2 ∨ x ∈ B1 ∨ x ∈ B2 ∨ w8.heap.size ≤ x) → OwV (fun x => x ∈ B3) w2 v T := fun h hk hM => h.keep hk fun x hx hq => by
    have h1 := hB3 x hq
    rcases hM x hx with h | h | h | h | h
    · omega
    · omega
    · exact (hB1 x h).2.2.2.2.2 hq
    · exact (hB2 x h).2.2.2.2 hq
    · omega
  have hC8' := hC8.mono (P' := fun x => FarP w B1 B2 B3 sA s2 x ∧ x < w8.heap.size) fun x h0 h => ⟨h, h0⟩
  have hD8' := hD8.mono (P' := fun x => FarP w B1 B2 B3 sA s2 x ∧ x < w8.heap.size) fun x h0 h => ⟨h, h0⟩
  have hX8' : ∀ j, j ≤ E.length → RdCo (fun x => FarP w B1 B2 B3 sA s2 x ∧ x < w8.heap.size) w8 (nth cov0 X j).vL (nth cov0 X j).vS (nth cov0 X j).vW (allC c0 (E.take j)) := fun j hj => (hX8 j hj).2.mono fun x h0 h => ⟨h, h0⟩
  have h9 := (hr8.top 40 (.sl 2 b o0 0 L.length cpE 8) rfl (by simp [den, hv1])).see [(sA, true, .cells (coC c0 (.slice none 0 0) (.slice aS 1 cS) (.slice none 0 0)) 31), (s2, true, .cells (coC cE (.slice uL cE.T.L.length iL) (.slice uS cE.S.length iS) (.slice uW cE.W.length iW)) 31), (b, false, .arr o0 L.length (fun j => evC (nth evt0 L j)) 8 u fz)] ⟨⟨hr8.all.1.1, hr8.all.1.2.1, by simp; omega⟩, ⟨hr8.all.2.1.1, hr8.all.2.1.2.1, by simp; omega⟩, ⟨hrep8, by simp, by simp⟩, trivial⟩
  refine seg cfg6_ok mixed PanicFree.body 1000 [true] [] h9.rebase (by first | trivial | exact HpRep.nil | assumption) (by kernel_rfl) fun sE hsE => ?_
  simp (maxSteps := 10000000) [SX.vc, SX.stop, SX.contS, SX.contB, SX.sxStep, SX.stepPure, SX.stepNew, SX.stepStore, SX.guardIx, SX.evOp, SX.opd, SX.look, SX.putS, SX.gobs, SX.AllP, SX.leave, SX.lookT, SX.evBin, SX.evInt, SX.evLoad, SX.shapeUp, SX.evIndexAddr, SX.cellsV, SX.evNew, SX.evStore, SX.spliceL, SX.SV.cells, SX.TD.isAgg, SX.NotAgg, Go.Value.cells, cfg6, evC, he]
  refine ⟨by (unfold SX.Ob; first | trivial | omega | ((try simp only [SX.inK]); (try simp [SX.den, SX.IsU8, SX.AllP, *]); (try omega))), ?_⟩
  intro a10 w10 hr10' _
  have hr10 := h9.unbase hr10'
  have z10 : w8.heap.size ≤ w10.heap.size := hr10'.keeps.size
  have q10 := hpLt hr10.all
  simp at q10
  refine post_call 18 [.ag (evC e)] hr10 (wanted_none rfl) rfl (callable 18 Try.func18) (write_ok w10 e (hbd e hem)) ?_
  rintro e11 w11 ⟨v11, hb11, ⟨hok, rfl, hO11⟩ | ⟨hno, rfl⟩⟩
  rotate_left
  · refine ⟨_, rfl, ?_⟩
    have hr11 := hr10.ret hb11 48 (.tu [.v (.slice none 0 0), .v (.int .i64 1)]) rfl _ (hr10.all.below hb11) (by simp) rfl
    refine seg cfg6_ok mixed PanicFree.body 1000 [true] [] hr11.rebase (by first | trivial | exact HpRep.nil | assumption) (by kernel_rfl) fun s_ hs_ => ?_
    simp (maxSteps := 10000000) [SX.vc, SX.stop, SX.contS, SX.contB, SX.contW, SX.sxStep, SX.stepPure, SX.guardIx, SX.evOp, SX.opd, SX.look, SX.putS, SX.gobs, SX.AllP, SX.leave, SX.evBin, SX.evInt, SX.arith, SX.popTo, cfg6]
    refine ⟨by (unfold SX.Ob; first | trivial | omega | ((try simp only [SX.inK]); (try simp [SX.den, SX.IsU8, SX.AllP, *]); (try omega))), ?_⟩
    intro a12 w12 hr12' _
    have hr12 := hr11.unbase hr12'
    have z11 : w10.heap.size ≤ w11.heap.size := hb11.size
    have z12 : w11.heap.size ≤ w12.heap.size := hr12'.keeps.size
    have m10 : ∀ x ∈ (frameAt w8 [(sA, true, .any), (s2, true, .any), (b, false, .any)]).M, x = sA ∨ x = s2 := by simp [frameAt, mutB]
    have m12 : ∀ x ∈ (frameAt w11 [(sA, true, .any), (s2, true, .any), (b, false, .any), (sE, true, .any)]).M, x = sA ∨ x = s2 ∨ w8.heap.size ≤ x := by simp [frameAt, mutB]; omega
    have kk : ∀ {vL vS vW : Value} {c : Co}, RdCo (fun x => FarP w B1 B2 B3 sA s2 x ∧ x < w8.heap.size) w8 vL vS vW c → RdCo (FarP w B1 B2 B3 sA s2) w12 vL vS vW c := fun h => (far8 (RdCo.below'' (far8 h hr10'.keeps fun x hx => by have := m10 x hx; omega) hb11) hr12'.keeps fun x hx => by have := m12 x hx; omega).mono fun x _ h => h.1
    exact post_rnd (L.length - (k + 1)) (by omega) ⟨k + 1, E, _, _, _, _, _, _, B1, B2, B3, X, rfl, hlt, by omega, hEg, fun x hx => by have := hB1 x hx; exact ⟨this.1, by omega, this.2.2⟩, fun x hx => by have := hB2 x hx; exact ⟨this.1, by omega, this.2.2⟩, fun x hx => by have := hB3 x hx; exact ⟨this.1, by omega, this.2.2⟩, kk hC8', by rw [hcE]; exact kk hD8', own1 ((own1 hT8 hr10'.keeps fun x hx => by have := m10 x hx; omega).below hb11) hr12'.keeps m12, hTl, own2 ((own2 hI8 hr10'.keeps fun x hx => by have := m10 x hx; omega).below hb11) hr12'.keeps (fun x hx => by have := m12 x hx; omega), own3 ((own3 hV8 hr10'.keeps fun x hx => by have := m10 x hx; omega).below hb11) hr12'.keeps (fun x hx => by have := m12 x hx; omega), hXl, fun j hj => ⟨(hX8 j hj).1, kk (hX8' j hj)⟩, hnil, by rw [hcE]; exact hr12.re (by simp [envTo, SX.look, den, hv1]) (hr12.all.take 2) rfl rfl⟩
  obtain ⟨a11', c11, rfl⟩ := hO11.slice
  refine ⟨_, rfl, ?_⟩
  have hr11 := hr10.ret hb11 48 (.tu [.v (.slice a11' (wr e).length c11), .v (.int .i64 0)]) rfl _ (hr10.all.below hb11) (by simp) rfl
  refine seg cfg6_ok mixed PanicFree.body 1000 [false] [] hr11.rebase (by first | trivial | exact HpRep.nil | assumption) (by kernel_rfl) fun s_ hs_ => ?_
  simp (maxSteps := 10000000) [SX.vc, SX.stop, SX.contS, SX.contB, SX.sxStep, SX.stepPure, SX.stepNew, SX.stepStore, SX.guardIx, SX.evOp, SX.opd, SX.opds, SX.look, SX.putS, SX.gobs, SX.AllP, SX.leave, SX.lookT, SX.evBuiltin, SX.evBin, SX.evInt, SX.arith, SX.evLoad, SX.shapeUp, SX.evNew, SX.evStore, SX.SV.cells, SX.TD.isAgg, cfg6, coC]
  refine ⟨by (unfold SX.Ob; first | trivial | omega | ((try simp only [SX.inK]); (try simp [SX.den, SX.IsU8, SX.AllP, *]); (try omega))), ?_⟩
  intro a12 w12 hr12' _
  have hr12 := hr11.unbase hr12'
  have z11 : w10.heap.size ≤ w11.heap.size := hb11.size
  have z12 : w11.heap.size ≤ w12.heap.size := hr12'.keeps.size
  have m10 : ∀ x ∈ (frameAt w8 [(sA, true, .any), (s2, true, .any), (b, false, .any)]).M, x = sA ∨ x = s2 := by simp [frameAt, mutB]
  have m4 : ∀ (u : World), ∀ x ∈ (frameAt u [(sA, true, .any), (s2, true, .any), (b, false, .any), (sE, true, .any)]).M, x = sA ∨ x = s2 ∨ x = sE := by simp [frameAt, mutB]
  have k12 : ∀ {vL vS vW : Value} {c : Co}, RdCo (fun x => FarP w B1 B2 B3 sA s2 x ∧ x < w8.heap.size) w8 vL vS vW c → RdCo (fun x => FarP w B1 B2 B3 sA s2 x ∧ x < w8.heap.size) w12 vL vS vW c := fun h => far8 (RdCo.below'' (far8 h hr10'.keeps fun x hx => by have := m10 x hx; omega) hb11) hr12'.keeps fun x hx => by have := m4 w11 x hx; omega
  have hT12 := own1 ((own1 hT8 hr10'.keeps fun x hx => by have := m10 x hx; omega).below hb11) hr12'.keeps (fun x hx => by have := m4 w11 x hx; omega)
  have hI12 := own2 ((own2 hI8 hr10'.keeps fun x hx => by have := m10 x hx; omega).below hb11) hr12'.keeps (fun x hx => by have := m4 w11 x hx; omega)
  have hV12 := own3 ((own3 hV8 hr10'.keeps fun x hx => by have := m10 x hx; omega).below hb11) hr12'.keeps (fun x hx => by have := m4 w11 x hx; omega)
  have hO12 := (hO11.mono (P' := fun x => w10.heap.size ≤ x ∧ x < w11.heap.size) fun x h0 h => ⟨h, h0⟩).keep hr12'.keeps (fun x hx hq => by have := m4 w11 x hx; omega)
  have hge : goodE e := ⟨hok, hbd e hem⟩
  have hdo := do_ok w12 cE e _ _ _ (k12 hD8') (IE.pre (by omega) e)
  unfold DoR at hdo
  obtain ⟨A, hA⟩ : ∃ A, doA cE e = A := ⟨_, rfl⟩
  obtain ⟨d, hd⟩ : ∃ d, doC cE e = d := ⟨_, rfl⟩
  rw [hA, hd] at hdo
  refine post_call 12 [.ag (coC cE (.slice uL cE.T.L.length iL) (.slice uS cE.S.length iS) (.slice uW cE.W.length iW)), .ag (evC e)] hr12 (wanted_none rfl) rfl (callable 12 Try.func12) hdo ?_
  rintro e13 w13 ⟨vL, vS, vW, va, rfl, hD13, hv13, hb13⟩
  refine ⟨_, rfl, ?_⟩
  obtain ⟨dL, kL, rfl⟩ := hD13.1.slice
  obtain ⟨dS, kS, rfl⟩ := hD13.2.1.slice
  obtain ⟨dW, kW, rfl⟩ := hD13.2.2.slice
  obtain ⟨av, cv, rfl⟩ := hv13.slice
  have hr13 := hr12.ret hb13 56 (.tu [.ag (coC d (.slice dL d.T.L.length kL) (.slice dS d.S.length kS) (.slice dW d.W.length kW)), .ag (ansC A (.slice av A.L.length cv))]) rfl _ (hr12.all.below hb13) (by simp) rfl
  refine seg cfg6_ok mixed PanicFree.body 1000 [] [] hr13.rebase (by first | trivial | exact HpRep.nil | assumption) (by kernel_rfl) fun s_ hs_ => ?_
  simp (maxSteps := 10000000) [SX.vc, SX.stop, SX.contS, SX.sxStep, SX.stepPure, SX.stepNew, SX.stepStore, SX.guardIx, SX.evOp, SX.opd, SX.opds, SX.look, SX.putS, SX.gobs, SX.AllP, SX.leave, SX.lookT, SX.evBuiltin, SX.evNew, SX.evStore, SX.spliceL, SX.SV.cells, SX.NotAgg, cfg6, coC, ansC]
  refine ⟨by (unfold SX.Ob; first | trivial | omega | ((try simp only [SX.inK]); (try simp [SX.den, SX.IsU8, SX.AllP, *]); (try omega))), ?_⟩
  intro a14 w14 hr14' _
  have hr14 := hr13.unbase hr14'
  have z13 : w12.heap.size ≤ w13.heap.size := hb13.size
  have z14 : w13.heap.size ≤ w14.heap.size := hr14'.keeps.size
  have q12 := hpLt hr12.all
  simp at q12
  have k14 : ∀ {vL vS vW : Value} {c : Co}, RdCo (fun x => FarP w B1 B2 B3 sA s2 x ∧ x < w8.heap.size) w8 vL vS vW c → RdCo (fun x => FarP w B1 B2 B3 sA s2 x ∧ x < w8.heap.size) w14 vL vS vW c := fun h => far8 (RdCo.below'' (k12 h) hb13) hr14'.keeps fun x hx => by have := m4 w13 x hx; omega
  have hT14 := own1 (hT12.below hb13) hr14'.keeps (fun x hx => by have := m4 w13 x hx; omega)
  have hI14 := own2 (hI12.below hb13) hr14'.keeps (fun x hx => by have := m4 w13 x hx; omega)
  have hV14 := own3 (hV12.below hb13) hr14'.keeps (fun x hx => by have := m4 w13 x hx; omega)
  have hO14 := (hO12.below hb13).keep hr14'.keeps (fun x hx hq => by have := m4 w13 x hx; omega)
  have hD14 : RdCo (fun x => w12.heap.size ≤ x ∧ x < w13.heap.size) w14 (.slice dL d.T.L.length kL) (.slice dS d.S.length kS) (.slice dW d.W.length kW) d := RdCo.keepM' (hD13.mono fun x h0 h => ⟨h, h0⟩) hr14'.keeps (fun x hx hq => by have := m4 w13 x hx; omega)
  have hwl := wr_len (hbd e hem)
  have hTb : OwU (fun x => x ∈ B1 ∨ w14.heap.size ≤ x) w14 _ (tapeL E) := hT14.mono fun x _ h => .inl h
  have hH14 : ∀ B' : List Nat, (∀ x ∈ B', (x ∈ B1 ∨ w14.heap.size ≤ x) ∧ x < w14.heap.size) → ∀ x, (x = sA ∨ x = s2) → x ∉ B' := fun B' h x hx hb => by
    obtain ⟨h1 | h1, h2⟩ := h x hb
    · have := hB1 x h1
      omega
    · omega
  have hhp : ∀ y : Nat × Bool × SO, y.1 ∈ [sA, s2] → (y.1 = sA ∨ y.1 = s2) := fun y hy => by simpa using hy
  refine post_app (C := cfg6) cfg6_ok hr14 (by first | exact wanted_none rfl | exact wanted_zero (hr14.env.same rfl rfl rfl rfl) rfl (by simp)) rfl (by simp) rfl rfl rfl rfl rfl rfl rfl rfl rfl (by decide) (flatU _) (by (try simp only [List.length_append]); omega) (fun x hx => .inr hx) hTb hO14.rd [(sA, true, .cells (coC c0 (.slice none 0 0) (.slice aS 1 cS) (.slice none 0 0)) 31), (s2, true, .cells (coC d (.slice dL d.T.L.length kL) (.slice dS d.S.length kS) (.slice dW d.W.length kW)) 31)] (fun w' B' hk hB' => HpAll.to hk (hr14.all.take 2) (fun y hy hyb => hH14 B' hB' y.1 (hhp y (List.mem_map_of_mem (f := fun x : Nat × Bool × SO => x.1) hy)) hyb)) (fun x hx => .inl (hx.elim (fun h => (hB1 x h).1) fun h => (show w.heap.size ≤ x by omega))) fun V15 a15 w15 B15 hT15 hB15 hk15 hr15 => ?_
  rw [← tapeL_snoc] at hT15
  obtain ⟨B1', hB1', hT15⟩ := OwS.only hT15
  obtain ⟨g1', j1', rfl⟩ := hT15.slice
  have z15 : w14.heap.size ≤ w15.heap.size := hk15.size
  have b15 : ∀ x ∈ B15, x ∈ B1 := fun x hx => (hB15 x hx).1.resolve_right (by have := (hB15 x hx).2; omega)
  have k15 : ∀ {vL vS vW : Value} {c : Co}, RdCo (fun x => FarP w B1 B2 B3 sA s2 x ∧ x < w8.heap.size) w8 vL vS vW c → RdCo (fun x => FarP w B1 B2 B3 sA s2 x ∧ x < w8.heap.size) w15 vL vS vW c := fun h => far8 (k14 h) hk15 fun x hx => .inr (.inr (.inl (b15 x hx)))
  have hI15 := own2 hI14 hk15 (fun x hx => .inr (.inr (.inl (b15 x hx))))
  have hV15 := own3 hV14 hk15 (fun x hx => .inr (.inr (.inl (b15 x hx))))
  have hD15 := RdCo.keepM' hD14 hk15 (fun x hx hq => by have := hB1 x (b15 x hx); omega)
  refine seg cfg6_ok mixed PanicFree.body 1000 [] [] hr15.rebase (by first | trivial | exact HpRep.nil | assumption) (by kernel_rfl) fun sG hsG => ?_
  simp (maxSteps := 10000000) [SX.vc, SX.stop, SX.contS, SX.contB, SX.sxStep, SX.stepPure, SX.stepNew, SX.stepStore, SX.guardIx, SX.evOp, SX.opd, SX.opds, SX.look, SX.putS, SX.gobs, SX.AllP, SX.leave, SX.lookT, SX.evBuiltin, SX.evBin, SX.evInt, SX.arith, SX.evLoad, SX.shapeUp, SX.evNew, SX.evStore, SX.SV.cells, SX.TD.isAgg, cfg6, coC]
  refine ⟨by (unfold SX.Ob; first | trivial | omega | ((try simp only [SX.inK]); (try simp [SX.den, SX.IsU8, SX.AllP, *]); (try omega))), ?_⟩
  intro a16 w16 hr16' _
  have hr16 := hr15.unbase hr16'
  have z16 : w15.heap.size ≤ w16.heap.size := hr16'.keeps.size
  have m2 : ∀ (u : World), ∀ x ∈ (frameAt u [(sA, true, .any), (s2, true, .any)]).M, x = sA ∨ x = s2 := by simp [frameAt, mutB]
  have k16 : ∀ {vL vS vW : Value} {c : Co}, RdCo (fun x => FarP w B1 B2 B3 sA s2 x ∧ x < w8.heap.size) w8 vL vS vW c → RdCo (fun x => FarP w B1 B2 B3 sA s2 x ∧ x < w8.heap.size) w16 vL vS vW c := fun h => far8 (k15 h) hr16'.keeps fun x hx => by have := m2 w15 x hx; omega
  have hI16 := own2 hI15 hr16'.keeps (fun x hx => by have := m2 w15 x hx; omega)
  have hV16 := own3 hV15 hr16'.keeps (fun x hx => by have := m2 w15 x hx; omega)
  have hD16 := RdCo.keepM' hD15 hr16'.keeps (fun x hx hq => by have := m2 w15 x hx; omega)
  have nb1 : ∀ x ∈ B1', x ≠ sA ∧ x ≠ s2 ∧ x ∉ B2 ∧ x ∉ B3 := fun x hx => by
    obtain ⟨h1 | h1, h2⟩ := hB1' x hx
    · exact (hB1 x h1).2.2
    · refine ⟨by omega, by omega, fun h => ?_, fun h => ?_⟩
      · have := (hB2 x h).2.1
        omega
      · have := (hB3 x h).2.1
        omega
  have hT16 := hT15.keep hr16'.keeps (fun x hx hq => by
    have h1 := nb1 x hq
    have h2 := m2 w15 x hx
    omega)
  have q16 := hpLt hr16.all
  simp at q16
  have hIb : OwI (fun x => x ∈ B2 ∨ w16.heap.size ≤ x) w16 _ (endsL E) := hI16.mono fun x _ h => .inl h
  have hH16 : ∀ B' : List Nat, (∀ x ∈ B', (x ∈ B2 ∨ w16.heap.size ≤ x) ∧ x < w16.heap.size) → ∀ x, (x = sA ∨ x = s2) → x ∉ B' := fun B' h x hx hb => by
    obtain ⟨h1 | h1, h2⟩ := h x hb
    · have := hB2 x h1
      omega
    · omega
  have hel := endsL_len E
  refine post_app (C := cfg6) cfg6_ok hr16 (by first | exact wanted_none rfl | exact wanted_zero (hr16.env.same rfl rfl rfl rfl) rfl (by simp)) rfl (by simp) rfl rfl rfl rfl rfl rfl rfl rfl rfl (by decide) (flatI _) (by (try simp only [List.length_cons, List.length_nil]); omega) (fun x hx => .inr hx) hIb (RdS.lit (x := ((tapeL (E ++ [e])).length : Int)) hr16.all.2.2.1.1 rfl) [(sA, true, .cells (coC c0 (.slice none 0 0) (.slice aS 1 cS) (.slice none 0 0)) 31), (s2, true, .cells (coC d (.slice dL d.T.L.length kL) (.slice dS d.S.length kS) (.slice dW d.W.length kW)) 31)] (fun w' B' hk hB' => HpAll.to hk (hr16.all.take 2) (fun y hy hyb => hH16 B' hB' y.1 (hhp y (List.mem_map_of_mem (f := fun x : Nat × Bool × SO => x.1) hy)) hyb)) (fun x hx => .inl (hx.elim (fun h => (hB2 x h).1) fun h => (show w.heap.size ≤ x by omega))) fun V17 a17 w17 B17 hI17 hB17 hk17 hr17 => ?_
  rw [← endsL_snoc] at hI17
  obtain ⟨B2', hB2', hI17⟩ := OwS.only hI17
  obtain ⟨g2', j2', rfl⟩ := hI17.slice
  have z17 : w16.heap.size ≤ w17.heap.size := hk17.size
  have b17 : ∀ x ∈ B17, x ∈ B2 := fun x hx => (hB17 x hx).1.resolve_right (by have := (hB17 x hx).2; omega)
  have k17 : ∀ {vL vS vW : Value} {c : Co}, RdCo (fun x => FarP w B1 B2 B3 sA s2 x ∧ x < w8.heap.size) w8 vL vS vW c → RdCo (fun x => FarP w B1 B2 B3 sA s2 x ∧ x < w8.heap.size) w17 vL vS vW c := fun h => far8 (k16 h) hk17 fun x hx => .inr (.inr (.inr (.inl (b17 x hx))))
  have hV17 := own3 hV16 hk17 (fun x hx => .inr (.inr (.inr (.inl (b17 x hx)))))
  have hD17 := RdCo.keepM' hD16 hk17 (fun x hx hq => by have := hB2 x (b17 x hx); omega)
  have hT17 := hT16.keep hk17 (fun x hx hq => (nb1 x hq).2.2.1 (b17 x hx))
  refine seg cfg6_ok mixed PanicFree.body 1000 [] [] hr17.rebase (by first | trivial | exact HpRep.nil | assumption) (by kernel_rfl) fun sH hsH => ?_
  simp (maxSteps := 10000000) [SX.vc, SX.stop, SX.contS, SX.contB, SX.sxStep, SX.stepPure, SX.stepNew, SX.stepStore, SX.guardIx, SX.evOp, SX.opd, SX.opds, SX.look, SX.putS, SX.gobs, SX.AllP, SX.leave, SX.lookT, SX.evBuiltin, SX.evBin, SX.evInt, SX.arith, SX.evLoad, SX.shapeUp, SX.evNew, SX.evStore, SX.SV.cells, SX.TD.isAgg, cfg6, coC]
  refine ⟨by (unfold SX.Ob; first | trivial | omega | ((try simp only [SX.inK]); (try simp [SX.den, SX.IsU8, SX.AllP, *]); (try omega))), ?_⟩
  intro a18 w18 hr18' _
  have hr18 := hr17.unbase hr18'
  have z18 : w17.heap.size ≤ w18.heap.size := hr18'.keeps.size
  have q18 := hpLt hr18.all
  simp at q18
  have k18 : ∀ {vL vS vW : Value} {c : Co}, RdCo (fun x => FarP w B1 B2 B3 sA s2 x ∧ x < w8.heap.size) w8 vL vS vW c → RdCo (fun x => FarP w B1 B2 B3 sA s2 x ∧ x < w8.heap.size) w18 vL vS vW c := fun h => far8 (k17 h) hr18'.keeps fun x hx => by have := m2 w17 x hx; omega
  have hV18 := own3 hV17 hr18'.keeps (fun x hx => by have := m2 w17 x hx; omega)
  have hD18 := RdCo.keepM' hD17 hr18'.keeps (fun x hx hq => by have := m2 w17 x hx; omega)
  have nb2 : ∀ x ∈ B2', x ≠ sA ∧ x ≠ s2 ∧ x ∉ B3 ∧ x ∉ B1' := fun x hx => by
    obtain ⟨h1 | h1, h2⟩ := hB2' x hx
    · exact ⟨(hB2 x h1).2.2.1, (hB2 x h1).2.2.2.1, (hB2 x h1).2.2.2.2, fun h => (nb1 x h).2.2.1 h1⟩
    · refine ⟨by omega, by omega, fun h => ?_, fun h => ?_⟩
      · have := (hB3 x h).2.1
        omega
      · have := (hB1' x h).2
        omega
  have hT18 := hT17.keep hr18'.keeps (fun x hx hq => by
    have h1 := nb1 x hq
    have h2 := m2 w17 x hx
    omega)
  have hI18 := hI17.keep hr18'.keeps (fun x hx hq => by
    have h1 := nb2 x hq
    have h2 := m2 w17 x hx
    omega)
  have hVb : OwV (fun x => x ∈ B3 ∨ w18.heap.size ≤ x) w18 _ X := hV18.mono fun x _ h => .inl h
  have hH18 : ∀ B' : List Nat, (∀ x ∈ B', (x ∈ B3 ∨ w18.heap.size ≤ x) ∧ x < w18.heap.size) → ∀ x, (x = sA ∨ x = s2) → x ∉ B' := fun B' h x hx hb => by
    obtain ⟨h1 | h1, h2⟩ := h x hb
    · have := hB3 x h1
      omega
    · omega
  refine post_app (C := cfg6) cfg6_ok hr18 (by first | exact wanted_none rfl | exact wanted_zero (hr18.env.same rfl rfl rfl rfl) rfl (by simp)) rfl (by simp) rfl rfl rfl rfl rfl rfl rfl rfl rfl (by decide) (flatV d dL dS dW _ _ _ _ _ _) (by (try simp only [List.length_cons, List.length_nil]); omega) (fun x hx => .inr hx) hVb (RdS.lit (x := (⟨d, .slice dL d.T.L.length kL, .slice dS d.S.length kS, .slice dW d.W.length kW⟩ : Cov)) hr18.all.2.2.1.1 rfl) [(sA, true, .cells (coC c0 (.slice none 0 0) (.slice aS 1 cS) (.slice none 0 0)) 31), (s2, true, .cells (coC d (.slice dL d.T.L.length kL) (.slice dS d.S.length kS) (.slice dW d.W.length kW)) 31)] (fun w' B' hk hB' => HpAll.to hk (hr18.all.take 2) (fun y hy hyb => hH18 B' hB' y.1 (hhp y (List.mem_map_of_mem (f := fun x : Nat × Bool × SO => x.1) hy)) hyb)) (fun x hx => .inl (hx.elim (fun h => (hB3 x h).1) fun h => (show w.heap.size ≤ x by omega))) fun V19 a19 w19 B19 hV19 hB19 hk19 hr19 => ?_
  obtain ⟨q, hq⟩ : ∃ q : Cov, q = ⟨d, .slice dL d.T.L.length kL, .slice dS d.S.length kS, .slice dW d.W.length kW⟩ := ⟨_, rfl⟩
  rw [← hq] at hV19
  obtain ⟨B3', hB3', hV19⟩ := OwS.only hV19
  obtain ⟨g3', j3', rfl⟩ := hV19.slice
  have z19 : w18.heap.size ≤ w19.heap.size := hk19.size
  have b19 : ∀ x ∈ B19, x ∈ B3 := fun x hx => (hB19 x hx).1.resolve_right (by have := (hB19 x hx).2; omega)
  have k19 : ∀ {vL vS vW : Value} {c : Co}, RdCo (fun x => FarP w B1 B2 B3 sA s2 x ∧ x < w8.heap.size) w8 vL vS vW c → RdCo (fun x => FarP w B1 B2 B3 sA s2 x ∧ x < w8.heap.size) w19 vL vS vW c := fun h => far8 (k18 h) hk19 fun x hx => .inr (.inr (.inr (.inr (.inl (b19 x hx)))))
  have hD19 := RdCo.keepM' hD18 hk19 (fun x hx hq => by have := hB3 x (b19 x hx); omega)
  have hT19 := hT18.keep hk19 (fun x hx hq => (nb1 x hq).2.2.2 (b19 x hx))
  have hI19 := hI18.keep hk19 (fun x hx hq => (nb2 x hq).2.2.1 (b19 x hx))
  have nb3 : ∀ x ∈ B3', x ≠ sA ∧ x ≠ s2 ∧ x ∉ B1' ∧ x ∉ B2' := fun x hx => by
    obtain ⟨h1 | h1, h2⟩ := hB3' x hx
    · exact ⟨(hB3 x h1).2.2.1, (hB3 x h1).2.2.2, fun h => (nb1 x h).2.2.2 h1, fun h => (nb2 x h).2.2.1 h1⟩
    · refine ⟨by omega, by omega, fun h => ?_, fun h => ?_⟩
      · have := (hB1' x h).2
        omega
      · have := (hB2' x h).2
        omega
  refine seg cfg6_ok mixed PanicFree.body 1000 [] [] hr19.rebase (by first | trivial | exact HpRep.nil | assumption) (by kernel_rfl) fun s_ hs_ => ?_
  simp (maxSteps := 10000000) [SX.vc, SX.stop, SX.contS, SX.contB, SX.sxStep, SX.stepPure, SX.stepNew, SX.stepStore, SX.guardIx, SX.evOp, SX.opd, SX.opds, SX.look, SX.putS, SX.gobs, SX.AllP, SX.leave, SX.lookT, SX.evBuiltin, SX.evBin, SX.evInt, SX.arith, SX.evLoad, SX.shapeUp, SX.evNew, SX.evStore, SX.SV.cells, SX.TD.isAgg, cfg6, coC]
  refine ⟨by (unfold SX.Ob; first | trivial | omega | ((try simp only [SX.inK]); (try simp [SX.den, SX.IsU8, SX.AllP, *]); (try omega))), ?_⟩
  intro a20 w20 hr20' _
  have hr20 := hr19.unbase hr20'
  have z20 : w19.heap.size ≤ w20.heap.size := hr20'.keeps.size
  have hT20 := hT19.keep hr20'.keeps (fun x hx hq => by
    have h1 := nb1 x hq
    have h2 := m2 w19 x hx
    omega)
  have hI20 := hI19.keep hr20'.keeps (fun x hx hq => by
    have h1 := nb2 x hq
    have h2 := m2 w19 x hx
    omega)
  have hV20 := hV19.keep hr20'.keeps (fun x hx hq => by
    have h1 := nb3 x hq
    have h2 := m2 w19 x hx
    omega)
  have k20 : ∀ {vL vS vW : Value} {c : Co}, RdCo (fun x => FarP w B1 B2 B3 sA s2 x ∧ x < w8.heap.size) w8 vL vS vW c → RdCo (FarP w B1' B2' B3' sA s2) w20 vL vS vW c := fun h => RdCo.mono (far8 (k19 h) hr20'.keeps fun x hx => by have := m2 w19 x hx; omega) fun x _ hx => by
    obtain ⟨⟨f0, f1, f2, f3, f4, f5⟩, f6⟩ := hx
    refine ⟨f0, fun h => ?_, fun h => ?_, fun h => ?_, f4, f5⟩
    · obtain ⟨h1 | h1, h2⟩ := hB1' x h
      · exact f1 h1
      · omega
    · obtain ⟨h1 | h1, h2⟩ := hB2' x h
      · exact f2 h1
      · omega
    · obtain ⟨h1 | h1, h2⟩ := hB3' x h
      · exact f3 h1
      · omega
  have hD20 : RdCo (FarP w B1' B2' B3' sA s2) w20 (.slice dL d.T.L.length kL) (.slice dS d.S.length kS) (.slice dW d.W.length kW) d := (RdCo.keepM' hD19 hr20'.keeps (fun x hx hq => by have := m2 w19 x hx; omega)).mono fun x _ hx => by
    refine ⟨by omega, fun h => ?_, fun h => ?_, fun h => ?_, by omega, by omega⟩
    · obtain ⟨h1 | h1, h2⟩ := hB1' x h
      · have := (hB1 x h1).2.1
        omega
      · omega
    · obtain ⟨h1 | h1, h2⟩ := hB2' x h
      · have := (hB2 x h1).2.1
        omega
      · omega
    · obtain ⟨h1 | h1, h2⟩ := hB3' x h
      · have := (hB3 x h1).2.1
        omega
      · omega
  have hcd : allC c0 (E ++ [e]) = d := by rw [allC_snoc, hcE, hd]
  have hEl : (E ++ [e]).length = E.length + 1 := by simp
  have hTl' : (tapeL (E ++ [e])).length ≤ 80 * (E ++ [e]).length := by
    rw [tapeL_snoc, List.length_append, hEl]
    omega
  exact post_rnd (L.length - (k + 1)) (by omega) ⟨k + 1, E ++ [e], .slice dL d.T.L.length kL, .slice dS d.S.length kS, .slice dW d.W.length kW, .slice g1' (tapeL (E ++ [e])).length j1', .slice g2' (endsL (E ++ [e])).length j2', .slice g3' (X ++ [q]).length j3', B1', B2', B3', X ++ [q], rfl, hlt, by omega,
    (fun x hx => by
      rcases List.mem_append.1 hx with h | h
      · exact hEg x h
      · obtain rfl := List.mem_singleton.1 h
        exact ⟨hge, hem⟩),
    (fun x hx => ⟨(hB1' x hx).1.elim (fun h => (hB1 x h).1) fun h => (by omega), by have := (hB1' x hx).2; omega, (nb1 x hx).1, (nb1 x hx).2.1, fun h => (nb2 x h).2.2.2 hx, fun h => (nb3 x h).2.2.1 hx⟩),
    (fun x hx => ⟨(hB2' x hx).1.elim (fun h => (hB2 x h).1) fun h => (by omega), by have := (hB2' x hx).2; omega, (nb2 x hx).1, (nb2 x hx).2.1, fun h => (nb3 x h).2.2.2 hx⟩),
    (fun x hx => ⟨(hB3' x hx).1.elim (fun h => (hB3 x h).1) fun h => (by omega), by have := (hB3' x hx).2; omega, (nb3 x hx).1, (nb3 x hx).2.1⟩),
    k20 hC8', by rw [hcd]; exact hD20, hT20, hTl', hI20, hV20, by simp; omega,
    (fun j hj => by
      by_cases hje : j ≤ E.length
      · rw [nth_append_left (by omega), List.take_append_of_le_length hje]
        exact ⟨(hX8 j hje).1, k20 (hX8' j hje)⟩
      · obtain rfl : j = X.length + 0 := by omega
        rw [nth_append_right, List.take_of_length_le (by omega), hcd, hq]
        exact ⟨rfl, hD20⟩), by simp,
    by rw [hcd]; exact hr20.re (by simp [envTo, SX.look, den, hv1]) (hr20.all.take 2) rfl rfl⟩
end Go.Proofs.C8
