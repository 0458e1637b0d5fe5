/- F1: texts of this proof, joined. -/
import Derived.Test.YtbhkpmnieopddaaE9
set_option linter.unusedVariables false
set_option linter.unusedSimpArgs false
set_option linter.unusedSectionVars false
namespace Go.Proofs.C8
open Go Go.Proofs Go.SX Go.RowKit Go.Proofs.L6
structure Anv where
  er : Int
  ep : Int
  v : Value
def anv0 : Anv := ⟨0, 0, .slice none 0 0⟩
def anvC (a : Anv) : List SV := [.v (.int .i64 a.er), .v (.int .i64 a.ep), .v a.v]
abbrev RdA := RdS anvC 3 anv0
abbrev OwA := OwS anvC 3 anv0
def AnsIs (P : Nat → Prop) (w : World) (a : Anv) (A : Ans) : Prop := a.er = A.er ∧ a.ep = A.ep ∧ RdF P w a.v A.L
def allC (c : Co) (L : List Evt) : Co := L.foldl doC c
theorem allC_take {c : Co} {L : List Evt} {k : Nat} {x : Evt} (h : k < L.length) (hx : nth evt0 L k = x) : allC c (L.take (k + 1)) = doC (allC c (L.take k)) x := by
  unfold allC
  rw [take_nth (d := evt0) h, hx, List.foldl_append]
  rfl
def ansK (c : Co) (L : List Evt) (k : Nat) : Ans := doA (allC c (L.take k)) (nth evt0 L k)
def AllR (w : World) (c : Co) (L : List Evt) (ev : Ending) (w' : World) : Prop :=
  ∃ vL vS vW vA As, ∃ Bo : List Nat, ev = .returned (den (.tu [.ag (coC (allC c L) vL vS vW), .v vA])) ∧ RdCo (fun x => w.heap.size ≤ x) w' vL vS vW (allC c L) ∧ (∀ x ∈ Bo, w.heap.size ≤ x) ∧ RdA (fun x => x ∈ Bo) w' vA As ∧ As.length = L.length ∧
    (∀ j, j < L.length → AnsIs (fun x => w.heap.size ≤ x ∧ x ∉ Bo) w' (nth anv0 As j) (ansK c L j)) ∧ Below w.heap.size w w'
def AllLoop (w : World) (sA : Nat) (v : Value) (c : Co) (L : List Evt) (m : Nat) (a : Act) (w' : World) : Prop :=
  ∃ (k : Nat) (vL vS vW vo : Value) (Bo : List Nat) (As : List Anv), m = L.length - k ∧ k ≤ L.length ∧ (∀ x ∈ Bo, w.heap.size ≤ x ∧ x < w'.heap.size ∧ x ≠ sA ∧ x ≠ sA + 1) ∧
    RdCo (fun x => w.heap.size ≤ x ∧ x ∉ Bo ∧ x ≠ sA ∧ x ≠ sA + 1) w' vL vS vW (allC c (L.take k)) ∧ OwA (fun x => x ∈ Bo) w' vo As ∧ As.length = k ∧
    (∀ j, j < k → AnsIs (fun x => w.heap.size ≤ x ∧ x ∉ Bo ∧ x ≠ sA ∧ x ≠ sA + 1) w' (nth anv0 As j) (ansK c L j)) ∧ (∀ x ∈ As, NotAgg x.v) ∧
    RepX (frame0 w) ⟨[(14, 0, .v (.int .i64 k)), (13, 0, .v (.int .i64 L.length)), (12, 0, .v v), (6, 0, .v vo), (5, 0, .v (.slice none 0 0)), (2, 0, .ptr 0 sA 0), (4, 0, .ptr 1 (sA + 1) 0)],
      [(sA, true, .cells (coC (allC c (L.take k)) vL vS vW) 31), (sA + 1, true, .cells [.v (.int .i64 0), .v (.int .i64 0), .v (.slice none 0 0), .v (.slice none 0 0), .v (.slice none 0 0), .v (.int .i64 0), .v (.int .i64 0)] 31)], 0, 0, 31, [], [], []⟩ a w'
set_option maxRecDepth 100000 in
set_option maxHeartbeats 64000000 in
theorem all_ok {P PE : Nat → Prop} (w : World) (c : Co) (L : List Evt) (vL vS vW v : Value) (hc : RdCo P w vL vS vW c) (hL : RdS evC 8 evt0 PE w v L) (hn : L.length ≤ 1000) (hs : Small c) (hp : ∀ k, k < L.length → Pre (allC c (L.take k)) (nth evt0 L k)) :
    Calls Try.prog 10 (denL [.ag (coC c vL vS vW), .v v]).toArray w (AllR w c L) := by
  have n1 := hs.n1
  have n2 := hs.n2
  have n3 := hs.n3
  have n4 := hs.n4
  obtain ⟨aL, cL, hvL⟩ := hc.1.slice
  obtain ⟨aS, cS, hvS⟩ := hc.2.1.slice
  obtain ⟨aW, cW, hvW⟩ := hc.2.2.slice
  subst hvL hvS hvW
  obtain ⟨ad, cp, rfl⟩ := hL.slice
  refine enter (F := frame0 w) Try.func10 rfl [.ag (coC c (.slice aL c.T.L.length cL) (.slice aS c.S.length cS) (.slice aW c.W.length cW)), .v (.slice ad L.length cp)] [] (by simp [Try.f10]) trivial (keeps0 w) fun a hr => ?_
  refine seg cfg10_ok mixed PanicFree.body 1000 [] [] hr (by first | trivial | exact HpRep.nil | assumption) (by kernel_rfl) fun sA hsA => ?_
  simp (maxSteps := 10000000) [SX.vc, SX.stop, SX.contS, SX.sxStep, SX.stepPure, SX.stepNew, SX.stepStore, SX.guardIx, SX.evOp, SX.opd, SX.look, SX.putS, SX.gobs, SX.AllP, SX.leave, SX.lookT, SX.evLoad, SX.shapeUp, SX.cellsV, SX.evNew, SX.evStore, SX.SV.cells, SX.env0, SX.TD.isAgg, Go.Value.cells, cfg10, Try.f10, coC]
  refine ⟨by (unfold SX.Ob; first | trivial | omega | ((try simp only [SX.inK]); (try simp [SX.den, SX.IsU8, SX.AllP, *]); (try omega))), ?_⟩
  intro a1 w1 hr1 _
  have z1 : w.heap.size ≤ w1.heap.size := hr1.keeps.size
  have q1 := hpLt hr1.all
  simp at q1
  refine post_call 21 [.ag (coC c (.slice aL c.T.L.length cL) (.slice aS c.S.length cS) (.slice aW c.W.length cW))] hr1 (wanted_none rfl) rfl (callable 21 Try.func21) (copied_ok w1 c _ _ _ (hc.below hr1.keeps.toBelow) (by omega) n2 (by omega) (by omega)) ?_
  rintro e2 w2 ⟨vL, vS, vW, m1, m2, rfl, hm0, hm1, hm2, hL2, hS2, hW2, hb2⟩
  refine ⟨_, rfl, ?_⟩
  have hr2 := hr1.ret hb2 11 (.ag (coC c vL vS vW)) rfl _ (hr1.all.below hb2) (by simp) rfl
  obtain ⟨ad2, cp2, rfl⟩ := hL2.slice
  obtain ⟨as2, cs2, rfl⟩ := hS2.slice
  obtain ⟨aw2, cw2, rfl⟩ := hW2.slice
  refine seg cfg10_ok mixed PanicFree.body 1000 [] [] hr2.rebase (by first | trivial | exact HpRep.nil | assumption) (by kernel_rfl) fun sD hsD => ?_
  simp (maxSteps := 10000000) [SX.vc, SX.stop, SX.contS, SX.sxStep, SX.stepPure, SX.stepNew, SX.stepStore, SX.guardIx, SX.evOp, SX.opd, SX.opds, SX.look, SX.putS, SX.gobs, SX.AllP, SX.leave, SX.lookT, SX.evBuiltin, SX.evBin, SX.evInt, SX.arith, SX.evNew, SX.evStore, SX.spliceL, SX.SV.cells, SX.NotAgg, cfg10, coC]
  refine ⟨by (unfold SX.Ob; first | trivial | omega | ((try simp only [SX.inK]); (try simp [SX.den, SX.IsU8, SX.AllP, *]); (try omega))), ?_⟩
  intro a3 w3 hr3' _
  have hr3 := hr2.unbase hr3'
  have kp3 : ∀ (Q : Nat → Prop), (∀ x, Q x → w1.heap.size ≤ x) → ∀ x ∈ (frameAt w2 [(sA, true, .any), (sA + 1, true, .any)]).M, ¬ Q x := fun Q hQ x hx hq => by
    have := hQ x hq
    simp [frameAt, mutB] at hx
    omega
  have hL3 := hL2.keep hr3'.keeps (kp3 _ fun x h => h.1)
  have hS3 := hS2.keep hr3'.keeps (kp3 _ fun x h => by omega)
  have hW3 := hW2.keep hr3'.keeps (kp3 _ fun x h => by omega)
  refine post_loop (AllLoop w sA (.slice ad L.length cp) c L) L.length ⟨0, _, _, _, _, [], [], rfl, by omega, by simp, ⟨hL3.rd.mono fun x _ h => ⟨by omega, by simp, by omega, by omega⟩, hS3.rd.mono fun x _ h => ⟨by omega, by simp, by omega, by omega⟩, hW3.rd.mono fun x _ h => ⟨by omega, by simp, by omega, by omega⟩⟩, OwS.nil, rfl, by omega, by simp, hr3.re (by simp [envTo, SX.look]) hr3.all rfl rfl⟩ ?_
  rintro m a4 w4 ⟨k, uL, uS, uW, vo, Bo, As, rfl, hk, hBo, hC4, hO4, hAl, hA4, hAn, hr4⟩
  have z4 : w.heap.size ≤ w4.heap.size := hr4.keeps.size
  obtain ⟨ad4, cp4, hvL4⟩ := hC4.1.slice
  obtain ⟨as4, cs4, hvS4⟩ := hC4.2.1.slice
  obtain ⟨aw4, cw4, hvW4⟩ := hC4.2.2.slice
  obtain ⟨ao4, co4, hvo4⟩ := hO4.slice
  subst hvL4 hvS4 hvW4 hvo4
  obtain ⟨ck, hck⟩ : ∃ ck, allC c (L.take k) = ck := ⟨_, rfl⟩
  rw [hck] at hC4 hr4
  have q4 := hpLt hr4.all
  simp at q4
  by_cases hlt : k < L.length
  rotate_left
  · obtain rfl : k = L.length := by omega
    rw [List.take_length] at hck
    refine seg cfg10_ok mixed PanicFree.body 1000 [false] [] hr4.rebase (by first | trivial | exact HpRep.nil | assumption) (by kernel_rfl) fun s_ hs_ => ?_
    simp (maxSteps := 10000000) [SX.vc, SX.stop, SX.contS, SX.contB, SX.contW, SX.sxStep, SX.stepPure, SX.stepNew, SX.stepStore, SX.guardIx, SX.evOp, SX.opd, SX.look, SX.putS, SX.gobs, SX.AllP, SX.leave, SX.lookT, SX.evBin, SX.evInt, SX.evLoad, SX.shapeUp, SX.evNew, SX.evStore, SX.spliceL, SX.SV.cells, SX.popTo, SX.TD.isAgg, SX.NotAgg, cfg10, coC]
    refine ⟨by (unfold SX.Ob; first | trivial | omega | ((try simp only [SX.inK]); (try simp [SX.den, SX.IsU8, SX.AllP, *]); (try omega))), ?_⟩
    intro a5 w5 hr5' _
    have hr5 := hr4.unbase hr5'
    have kp5 : ∀ (Q : Nat → Prop), (∀ x, Q x → x ≠ sA ∧ x ≠ sA + 1) → ∀ x ∈ (frameAt w4 [(sA, true, .any), (sA + 1, true, .any)]).M, ¬ Q x := fun Q hQ x hx hq => by
      have := hQ x hq
      simp [frameAt, mutB] at hx
      omega
    have hsA : w.heap.size ≤ sA := by omega
    have hL5 := hC4.1.keep hr5'.keeps (kp5 _ fun x h => h.2.2)
    have hS5 := hC4.2.1.keep hr5'.keeps (kp5 _ fun x h => h.2.2)
    have hW5 := hC4.2.2.keep hr5'.keeps (kp5 _ fun x h => h.2.2)
    have hO5 := hO4.keep hr5'.keeps (kp5 _ fun x h => (hBo x h).2.2)
    exact post_retn (endC2 hr5 rfl rfl rfl tok31 rfl rfl ⟨_, _, _, .slice ao4 As.length co4, As, Bo, by rw [hck]; rfl, by rw [hck]; exact ⟨hL5.mono fun x _ h => h.1, hS5.mono fun x _ h => h.1, hW5.mono fun x _ h => h.1⟩, fun x h => (hBo x h).1, hO5.rd, hAl, fun j hj => ⟨(hA4 j hj).1, (hA4 j hj).2.1, ((hA4 j hj).2.2.keep hr5'.keeps (kp5 _ fun x h => h.2.2)).mono fun x _ h => ⟨h.1, h.2.1⟩⟩, hr5.keeps.toBelow⟩).1
  obtain ⟨b, o0, cap, u, fz, hP, hv, hrep⟩ := hL.opn hlt
  cases hv
  have hbw := SO.rep_lt hrep
  have hrep4 := SO.rep_same hrep (hr4.keeps.toBelow.block _ hbw)
  obtain ⟨x, hx⟩ : ∃ x, nth evt0 L k = x := ⟨_, rfl⟩
  have h4 := (hr4.top 12 (.sl 2 b o0 0 L.length cp 8) rfl (by simp [den])).see [(sA, true, .cells (coC ck (.slice ad4 ck.T.L.length cp4) (.slice as4 ck.S.length cs4) (.slice aw4 ck.W.length cw4)) 31), (sA + 1, true, .cells [.v (.int .i64 0), .v (.int .i64 0), .v (.slice none 0 0), .v (.slice none 0 0), .v (.slice none 0 0), .v (.int .i64 0), .v (.int .i64 0)] 31), (b, false, .arr o0 L.length (fun j => evC (nth evt0 L j)) 8 u fz)] ⟨⟨hr4.all.1.1, hr4.all.1.2.1, by simp; omega⟩, ⟨hr4.all.2.1.1, hr4.all.2.1.2.1, by simp; omega⟩, ⟨hrep4, by simp, by simp⟩, trivial⟩
  refine seg cfg10_ok mixed PanicFree.body 1000 [true] [] h4.rebase (by first | trivial | exact HpRep.nil | assumption) (by kernel_rfl) fun sE hsE => ?_
  simp (maxSteps := 10000000) [SX.vc, SX.stop, SX.contS, SX.contB, SX.sxStep, SX.stepPure, SX.stepNew, SX.stepStore, SX.guardIx, SX.evOp, SX.opd, SX.look, SX.putS, SX.gobs, SX.AllP, SX.leave, SX.lookT, SX.evBin, SX.evInt, SX.evLoad, SX.shapeUp, SX.evIndexAddr, SX.cellsV, SX.evNew, SX.evStore, SX.spliceL, SX.SV.cells, SX.TD.isAgg, SX.NotAgg, Go.Value.cells, cfg10, evC, hx, coC]
  refine ⟨by (unfold SX.Ob; first | trivial | omega | ((try simp only [SX.inK]); (try simp [SX.den, SX.IsU8, SX.AllP, *]); (try omega))), ?_⟩
  intro a5 w5 hr5' _
  have hr5 := h4.unbase hr5'
  have z5 : w4.heap.size ≤ w5.heap.size := hr5'.keeps.size
  have kp5 : ∀ (Q : Nat → Prop), (∀ x, Q x → x ≠ sA ∧ x ≠ sA + 1) → ∀ x ∈ (frameAt w4 [(sA, true, .any), (sA + 1, true, .any), (b, false, .any)]).M, ¬ Q x := fun Q hQ x hx hq => by
    have := hQ x hq
    simp [frameAt, mutB] at hx
    omega
  have hC5 : RdCo (fun x => w.heap.size ≤ x ∧ x ∉ Bo ∧ x ≠ sA ∧ x ≠ sA + 1) w5 _ _ _ ck := ⟨hC4.1.keep hr5'.keeps (kp5 _ fun x h => h.2.2), hC4.2.1.keep hr5'.keeps (kp5 _ fun x h => h.2.2), hC4.2.2.keep hr5'.keeps (kp5 _ fun x h => h.2.2)⟩
  have hO5 := hO4.keep hr5'.keeps (kp5 _ fun x h => (hBo x h).2.2)
  have hA5 : ∀ j, j < k → AnsIs (fun x => w.heap.size ≤ x ∧ x ∉ Bo ∧ x ≠ sA ∧ x ≠ sA + 1) w5 (nth anv0 As j) (ansK c L j) := fun j hj => ⟨(hA4 j hj).1, (hA4 j hj).2.1, (hA4 j hj).2.2.keep hr5'.keeps (kp5 _ fun x h => h.2.2)⟩
  have hpre := hp k hlt
  rw [hck, hx] at hpre
  obtain ⟨A, hAd⟩ : ∃ A, doA ck x = A := ⟨_, rfl⟩
  obtain ⟨cn, hcn⟩ : ∃ cn, doC ck x = cn := ⟨_, rfl⟩
  have hdo := do_ok w5 ck x _ _ _ hC5 hpre
  rw [hAd, hcn] at hdo
  refine post_call 12 [.ag (coC ck (.slice ad4 ck.T.L.length cp4) (.slice as4 ck.S.length cs4) (.slice aw4 ck.W.length cw4)), .ag (evC x)] hr5 (wanted_none rfl) rfl (callable 12 Try.func12) hdo ?_
  rintro e6 w6 ⟨xL, xS, xW, va, rfl, hC6, hv6, hb6⟩
  refine ⟨_, rfl, ?_⟩
  have z6 : w5.heap.size ≤ w6.heap.size := hb6.size
  obtain ⟨ad6, cp6, rfl⟩ := hC6.1.slice
  obtain ⟨as6, cs6, rfl⟩ := hC6.2.1.slice
  obtain ⟨aw6, cw6, rfl⟩ := hC6.2.2.slice
  obtain ⟨av6, cv6, rfl⟩ := hv6.slice
  have hr6 := hr5.ret hb6 21 (.tu [.ag (coC cn (.slice ad6 cn.T.L.length cp6) (.slice as6 cn.S.length cs6) (.slice aw6 cn.W.length cw6)), .ag (ansC A (.slice av6 A.L.length cv6))]) rfl _ (hr5.all.below hb6) (by simp) rfl
  refine seg cfg10_ok mixed PanicFree.body 1000 [] [] hr6.rebase (by first | trivial | exact HpRep.nil | assumption) (by kernel_rfl) fun sF hsF => ?_
  simp (maxSteps := 10000000) [SX.vc, SX.stop, SX.contS, SX.sxStep, SX.stepPure, SX.stepNew, SX.stepStore, SX.guardIx, SX.evOp, SX.opd, SX.opds, SX.look, SX.putS, SX.gobs, SX.AllP, SX.leave, SX.lookT, SX.evBuiltin, SX.evLoad, SX.shapeUp, SX.evNew, SX.evStore, SX.spliceL, SX.SV.cells, SX.TD.isAgg, SX.NotAgg, cfg10, coC, ansC]
  refine ⟨by (unfold SX.Ob; first | trivial | omega | ((try simp only [SX.inK]); (try simp [SX.den, SX.IsU8, SX.AllP, *]); (try omega))), ?_⟩
  intro a7 w7 hr7' _
  have hr7 := hr6.unbase hr7'
  have z7 : w6.heap.size ≤ w7.heap.size := hr7'.keeps.size
  have q5 := hpLt hr5.all
  simp at q5
  have hsA0 : w.heap.size ≤ sA := by omega
  have hsE : w4.heap.size ≤ sE := by omega
  have kp7 : ∀ (Q : Nat → Prop), (∀ x, Q x → x ≠ sA ∧ x ≠ sA + 1 ∧ x ≠ sE ∧ x ≠ sE + 1) → ∀ x ∈ (frameAt w6 [(sA, true, .any), (sA + 1, true, .any), (b, false, .any), (sE, true, .any), (sE + 1, true, .any)]).M, ¬ Q x := fun Q hQ x hx hq => by
    have := hQ x hq
    simp [frameAt, mutB] at hx
    omega
  have hC7 : RdCo (fun x => w5.heap.size ≤ x) w7 _ _ _ cn := ⟨hC6.1.keep hr7'.keeps (kp7 _ fun x h => by omega), hC6.2.1.keep hr7'.keeps (kp7 _ fun x h => by omega), hC6.2.2.keep hr7'.keeps (kp7 _ fun x h => by omega)⟩
  have hv7 := hv6.keep hr7'.keeps (kp7 _ fun x h => by omega)
  have hO7 := (hO5.below hb6).keep hr7'.keeps (kp7 _ fun x h => by have := hBo x h; omega)
  have hA7 : ∀ j, j < k → AnsIs (fun x => (w.heap.size ≤ x ∧ x ∉ Bo ∧ x ≠ sA ∧ x ≠ sA + 1) ∧ x < w4.heap.size) w7 (nth anv0 As j) (ansK c L j) := fun j hj => ⟨(hA4 j hj).1, (hA4 j hj).2.1, ((((hA4 j hj).2.2.mono (P' := fun x => (w.heap.size ≤ x ∧ x ∉ Bo ∧ x ≠ sA ∧ x ≠ sA + 1) ∧ x < w4.heap.size) fun x h0 h => ⟨h, h0⟩).keep hr5'.keeps (kp5 _ fun x h => h.1.2.2)).below hb6).keep hr7'.keeps (kp7 _ fun x h => by omega)⟩
  have hO7' : OwA (fun x => x ∈ Bo ∨ w7.heap.size ≤ x) w7 (.slice ao4 As.length co4) As := hO7.mono fun x _ h => .inl h
  have hnB : ∀ (w' : World) (B : List Nat), (∀ x ∈ B, (x ∈ Bo ∨ w7.heap.size ≤ x) ∧ x < w7.heap.size) → ∀ x, (x = sA ∨ x = sA + 1) → x ∉ B := fun w' B hB x hx hb => by
    obtain ⟨h1, h2⟩ := hB x hb
    rcases h1 with h1 | h1
    · have := hBo x h1
      omega
    · omega
  have hHm : ∀ x, x ∈ [sA, sA + 1] → (x = sA ∨ x = sA + 1) := fun x hx => by simpa using hx
  have hfl7 : ∀ y ∈ [(⟨A.er, A.ep, .slice av6 A.L.length cv6⟩ : Anv)], ∀ z ∈ anvC y, NotAgg (den z) := fun y hy z hz => by
    obtain rfl : y = (⟨A.er, A.ep, .slice av6 A.L.length cv6⟩ : Anv) := by simpa using hy
    simp only [anvC, List.mem_cons, List.not_mem_nil, or_false] at hz
    rcases hz with rfl | rfl | rfl <;> trivial
  refine post_app (C := cfg10) cfg10_ok hr7 (by first | exact wanted_none rfl | exact wanted_zero (hr7.env.same rfl rfl rfl rfl) rfl (by simp)) rfl (by simp) rfl rfl rfl rfl rfl rfl rfl rfl rfl (by decide) hfl7 (by (try simp only [List.length_cons, List.length_nil]); omega) (fun x hx => .inr hx) hO7' (RdS.lit (x := (⟨A.er, A.ep, .slice av6 A.L.length cv6⟩ : Anv)) hr7.all.2.2.2.2.2.1.1 (by simp [anvC])) [(sA, true, .cells (coC cn (.slice ad6 cn.T.L.length cp6) (.slice as6 cn.S.length cs6) (.slice aw6 cn.W.length cw6)) 31), (sA + 1, true, .cells [.v (.int .i64 0), .v (.int .i64 0), .v (.slice none 0 0), .v (.slice none 0 0), .v (.slice none 0 0), .v (.int .i64 0), .v (.int .i64 0)] 31)] (fun w' B hk hB => HpAll.to hk (hr7.all.take 2) (fun e he hb => hnB w' B hB e.1 (hHm e.1 (List.mem_map_of_mem (f := fun x : Nat × Bool × SO => x.1) he)) hb)) (fun x hx => .inl (hx.elim (fun h => (hBo x h).1) fun h => (show w.heap.size ≤ x by omega))) fun V8 a8 w8 B8 hO8 hB8 hk8 hr8 => ?_
  obtain ⟨av8, cv8, rfl⟩ := hO8.slice
  have z8 : w7.heap.size ≤ w8.heap.size := hk8.size
  obtain ⟨Bo', hBo', hO8'⟩ := OwS.only hO8
  have hB8o : ∀ x ∈ B8, x ∈ Bo := fun x hx => (hB8 x hx).1.resolve_right (by have := (hB8 x hx).2; omega)
  refine seg cfg10_ok mixed PanicFree.body 1000 [] [] hr8.rebase (by first | trivial | exact HpRep.nil | assumption) (by kernel_rfl) fun sG hsG => ?_
  simp (maxSteps := 10000000) [SX.vc, SX.stop, SX.contS, SX.sxStep, SX.stepPure, SX.stepNew, SX.stepStore, SX.guardIx, SX.evOp, SX.opd, SX.opds, SX.look, SX.putS, SX.gobs, SX.AllP, SX.leave, SX.lookT, SX.evBuiltin, SX.evBin, SX.evInt, SX.arith, SX.evNew, SX.evStore, SX.spliceL, SX.SV.cells, SX.NotAgg, cfg10, coC]
  refine ⟨by (unfold SX.Ob; first | trivial | omega | ((try simp only [SX.inK]); (try simp [SX.den, SX.IsU8, SX.AllP, *]); (try omega))), ?_⟩
  intro a9 w9 hr9' _
  have hr9 := hr8.unbase hr9'
  have z9 : w8.heap.size ≤ w9.heap.size := hr9'.keeps.size
  have kp9 : ∀ (Q : Nat → Prop), (∀ x, Q x → x ≠ sA ∧ x ≠ sA + 1) → ∀ x ∈ (frameAt w8 [(sA, true, .any), (sA + 1, true, .any)]).M, ¬ Q x := fun Q hQ x hx hq => by
    have := hQ x hq
    simp [frameAt, mutB] at hx
    omega
  have hBoN : ∀ x ∈ Bo', w.heap.size ≤ x ∧ x < w9.heap.size ∧ x ≠ sA ∧ x ≠ sA + 1 := fun x hx => by
    obtain ⟨h1 | h1, h2⟩ := hBo' x hx
    · have := hBo x h1
      omega
    · omega
  have hnew : ∀ x, x ∉ Bo → x < w7.heap.size → x ∉ Bo' := fun x h1 h2 h3 => by
    rcases (hBo' x h3).1 with h | h
    · exact h1 h
    · omega
  have hnB8 : ∀ x ∈ Bo, x < w4.heap.size := fun x hx => (hBo x hx).2.1
  have t9 : ∀ {α : Type} {enc : α → List SV} {sz : Nat} {d : α} {v : Value} {M : List α}, RdS enc sz d (fun x => w5.heap.size ≤ x) w7 v M → RdS enc sz d (fun x => w.heap.size ≤ x ∧ x ∉ Bo' ∧ x ≠ sA ∧ x ≠ sA + 1) w9 v M := fun h =>
    (((h.mono (P' := fun x => w5.heap.size ≤ x ∧ x < w7.heap.size) fun x h0 h => ⟨h, h0⟩).keep hk8 (fun x hx hq => by have := hnB8 x (hB8o x hx); omega)).keep hr9'.keeps (kp9 _ fun x h => by omega)).mono fun x _ h => ⟨by omega, hnew x (fun hb => by have := hnB8 x hb; omega) h.2, by omega, by omega⟩
  have t9o : ∀ {α : Type} {enc : α → List SV} {sz : Nat} {d : α} {v : Value} {M : List α}, RdS enc sz d (fun x => (w.heap.size ≤ x ∧ x ∉ Bo ∧ x ≠ sA ∧ x ≠ sA + 1) ∧ x < w4.heap.size) w7 v M → RdS enc sz d (fun x => w.heap.size ≤ x ∧ x ∉ Bo' ∧ x ≠ sA ∧ x ≠ sA + 1) w9 v M := fun h =>
    ((h.keep hk8 (fun x hx hq => hq.1.2.1 (hB8o x hx))).keep hr9'.keeps (kp9 _ fun x h => h.1.2.2)).mono fun x _ h => ⟨h.1.1, hnew x h.1.2.1 (by omega), h.1.2.2⟩
  have hcn' : allC c (L.take (k + 1)) = cn := by rw [allC_take hlt hx, hck, hcn]
  have hans : ansK c L k = A := by unfold ansK; rw [hck, hx, hAd]
  have hl8 : (As ++ [(⟨A.er, A.ep, .slice av6 A.L.length cv6⟩ : Anv)]).length = As.length + 1 := by simp
  rw [hl8] at hO8'
  have hO9 : OwA (fun x => x ∈ Bo') w9 (.slice av8 (As.length + 1) cv8) (As ++ [⟨A.er, A.ep, .slice av6 A.L.length cv6⟩]) := hO8'.keep hr9'.keeps (kp9 _ fun x h => (hBoN x h).2.2)
  refine post_rnd (L.length - (k + 1)) (by omega) ⟨k + 1, .slice ad6 cn.T.L.length cp6, .slice as6 cn.S.length cs6, .slice aw6 cn.W.length cw6, .slice av8 (As.length + 1) cv8, Bo', As ++ [⟨A.er, A.ep, .slice av6 A.L.length cv6⟩], rfl, by omega, hBoN, by rw [hcn']; exact ⟨t9 hC7.1, t9 hC7.2.1, t9 hC7.2.2⟩, hO9, by simp [hAl], fun j hj => ?_, fun y hy => ?_, ?_⟩
  · rcases Nat.lt_or_ge j k with h | h
    · rw [nth_append_left (by omega)]
      exact ⟨(hA7 j h).1, (hA7 j h).2.1, t9o (hA7 j h).2.2⟩
    · obtain rfl : j = k := by omega
      have e : nth anv0 (As ++ [⟨A.er, A.ep, .slice av6 A.L.length cv6⟩]) j = ⟨A.er, A.ep, .slice av6 A.L.length cv6⟩ := by
        have h1 := nth_append_right (d := anv0) (L := As) (M := [⟨A.er, A.ep, .slice av6 A.L.length cv6⟩]) (j := 0)
        rw [Nat.add_zero, hAl] at h1
        exact h1
      rw [e, hans]
      exact ⟨rfl, rfl, t9 hv7⟩
  · rcases List.mem_append.1 hy with h | h
    · exact hAn y h
    · obtain rfl : y = (⟨A.er, A.ep, .slice av6 A.L.length cv6⟩ : Anv) := by simpa using h
      trivial
  · rw [hcn']
    exact hr9.re (by simp [envTo, SX.look, den]) hr9.all rfl rfl
end Go.Proofs.C8
namespace Go.Proofs.C8
open Go Go.Proofs Go.SX Go.RowKit Go.Proofs.L6
def lvE : List Evt := [⟨1, 1, 0, 0, 0, 0, 0, 0⟩, ⟨2, 1, 0, 0, 0, 0, 0, 0⟩, ⟨3, 1, 0, 2, 0, 0, 0, 0⟩]
def lv0 : Co := ⟨⟨0, 0, []⟩, [⟨0, 100, -1, 0⟩], [], 10, 4⟩
def lv1 : Co := ⟨⟨1, 0, [⟨2001, 1, 1, 10⟩]⟩, [⟨0, 100, -1, 0⟩], [], 10, 4⟩
def lv2 : Co := ⟨⟨2, 0, [⟨2001, 1, 1, 10⟩]⟩, [⟨0, 100, -1, 0⟩], [⟨0, 1, 2⟩], 10, 4⟩
def lv3 : Co := ⟨⟨2, 0, [⟨0, 1, 2, 10⟩, ⟨2001, 1, 1, 10⟩]⟩, [⟨0, 100, -1, 0⟩], [], 10, 4⟩
theorem lv_1 : allC lv0 (lvE.take 1) = lv1 := by decide
theorem lv_2 : allC lv0 (lvE.take 2) = lv2 := by decide
theorem lv_3 : allC lv0 lvE = lv3 := by decide
theorem lvA_0 : ansK lv0 lvE 0 = ⟨0, 1, []⟩ := by decide
theorem lvA_1 : ansK lv0 lvE 1 = ⟨0, 2, [⟨0, 1, 2⟩]⟩ := by decide
theorem lvA_2 : ansK lv0 lvE 2 = ⟨0, 2, []⟩ := by decide
theorem lvH : ownH lv3 0 = 1 := by decide
theorem lvN : ownE lv3 0 = 2 := by decide
theorem lvM : memP lv3 1 := by decide
theorem lvP0 : Pre lv0 ⟨1, 1, 0, 0, 0, 0, 0, 0⟩ := ⟨⟨by decide, by decide, by decide, by decide, by decide, by decide, by decide, by decide, by decide, by decide⟩, by decide, chk_srt (by decide), by decide⟩
theorem lvP1 : Pre lv1 ⟨2, 1, 0, 0, 0, 0, 0, 0⟩ := ⟨⟨by decide, by decide, by decide, by decide, by decide, by decide, by decide, by decide, by decide, by decide⟩, by decide, chk_srt (by decide), by decide⟩
theorem lvP2 : Pre lv2 ⟨3, 1, 0, 2, 0, 0, 0, 0⟩ := ⟨⟨by decide, by decide, by decide, by decide, by decide, by decide, by decide, by decide, by decide, by decide⟩, by decide, chk_srt (by decide), by decide⟩
theorem lvP : ∀ k, k < lvE.length → Pre (allC lv0 (lvE.take k)) (nth evt0 lvE k) := fun k hk => by
  have : k = 0 ∨ k = 1 ∨ k = 2 := by simp [lvE] at hk; omega
  rcases this with rfl | rfl | rfl
  · exact lvP0
  · rw [lv_1]; exact lvP1
  · rw [lv_2]; exact lvP2
theorem RdE.lit3 {w : World} {s : Nat} {row : Nat → List SV} {u : TypeId} {fz : Nat × Nat} {x y z : Evt} (h : (SO.arr 0 3 row 8 u fz).rep w s) (h0 : denL (row 0) = denL (evC x)) (h1 : denL (row 1) = denL (evC y)) (h2 : denL (row 2) = denL (evC z)) :
    RdE (fun _ => True) w (.slice (some ⟨s, 0, none⟩) 3 3) [x, y, z] :=
  .inr ⟨by simp, s, 0, 3, u, fz, trivial, rfl, rep_arr_sub h (Nat.le_refl _) (fun j hj => by
    have : j = 0 ∨ j = 1 ∨ j = 2 := by simp at hj; omega
    rcases this with rfl | rfl | rfl
    · exact h0
    · exact h1
    · exact h2), Nat.le_refl _⟩
set_option maxRecDepth 100000 in
set_option maxHeartbeats 64000000 in
theorem live_ok (w : World) : Calls Try.prog 7 (denL []).toArray w (Ret w (.v (.bool true))) := by
  refine enter (F := frame0 w) Try.func7 rfl [] [] (by simp [Try.f7]) trivial (keeps0 w) fun a hr => ?_
  refine seg cfg7_ok mixed PanicFree.body 1000 [] [] hr (by first | trivial | exact HpRep.nil | assumption) (by kernel_rfl) fun s_ hs_ => ?_
  simp (maxSteps := 10000000) [SX.vc, SX.stop, SX.contS, SX.sxStep, SX.stepPure, SX.stepNew, SX.stepStore, SX.guardIx, SX.evOp, SX.opd, SX.putS, SX.gobs, SX.AllP, SX.leave, SX.evNew, SX.evStore, SX.env0, cfg7, Try.f7]
  refine ⟨by (unfold SX.Ob; first | trivial | omega | ((try simp only [SX.inK]); (try simp [SX.den, SX.IsU8, SX.AllP, *]); (try omega))), ?_⟩
  intro a1 w1 hr1 _
  refine post_call 20 [.v (.int .i64 4), .v (.int .i64 100), .v (.int .i64 10)] hr1 (by first | exact wanted_none rfl | exact wanted_zero (hr1.env.same rfl rfl rfl rfl) rfl (by simp) | exact wanted_zero (hr1.env.same rfl rfl rfl rfl) rfl (by simp [*])) rfl (callable 20 Try.func20) (cnew_ok w1 4 100 10 (by decide) (by decide) (by decide) (by decide) (by decide) (by decide)) ?_
  rintro e2 w2 ⟨vS, rfl, hS2, hb2⟩
  refine ⟨_, rfl, ?_⟩
  have h2 := hr1.ret hb2 7 (.tu [.ag (coC (co0 4 100 10) (.slice none 0 0) vS (.slice none 0 0)), .v (.int .i64 0)]) rfl _ (hr1.all.below hb2) (by simp) rfl
  obtain ⟨aS, cS, rfl⟩ := hS2.slice
  have z1 : w.heap.size ≤ w1.heap.size := hr1.keeps.size
  refine seg cfg7_ok mixed PanicFree.body 1000 [] [] h2.rebase (by first | trivial | exact HpRep.nil | assumption) (by kernel_rfl) fun sA hsA => ?_
  simp (maxSteps := 10000000) [SX.vc, SX.stop, SX.contS, SX.sxStep, SX.stepPure, SX.stepNew, SX.stepStore, SX.guardIx, SX.evOp, SX.opd, SX.opds, SX.look, SX.putS, SX.gobs, SX.AllP, SX.leave, SX.lookT, SX.evLoad, SX.shapeUp, SX.evFill, SX.evBuild, SX.szs, SX.cellsV, SX.evNew, SX.evStore, SX.spliceL, SX.SV.cells, SX.TD.isAgg, SX.NotAgg, Go.Value.cells, cfg7, coC, co0]
  refine ⟨by (unfold SX.Ob; first | trivial | omega | ((try simp only [SX.inK]); (try simp [SX.den, SX.IsU8, SX.AllP, *]); (try omega))), ?_⟩
  intro a3 w3 hr3' _
  have hr3 := h2.unbase hr3'
  have hS3 : RdP (fun _ => True) w3 (.slice aS 1 cS) lv0.S := (hS2.keep hr3'.keeps (by simp [mutB])).mono fun _ _ _ => trivial
  have hE3 := RdE.lit3 (x := ⟨1, 1, 0, 0, 0, 0, 0, 0⟩) (y := ⟨2, 1, 0, 0, 0, 0, 0, 0⟩) (z := ⟨3, 1, 0, 2, 0, 0, 0, 0⟩) hr3.all.2.1.1 (by simp [evC]) (by simp [evC]) (by simp [evC])
  have hA3 := all_ok w3 lv0 lvE (.slice none 0 0) (.slice aS 1 cS) (.slice none 0 0) _ ⟨OwS.nil.rd, hS3, OwS.nil.rd⟩ hE3 (by decide) lvP0.sm lvP
  refine post_call 10 [.ag (coC lv0 (.slice none 0 0) (.slice aS 1 cS) (.slice none 0 0)), .sl 1 (sA + 1) 0 0 3 3 8] hr3 (wanted_none rfl) rfl (callable 10 Try.func10) hA3 ?_
  rintro e4 w4 ⟨uL, uS, uW, vA, As, Bo, rfl, hC4, hBo, hAs4, hAl, hAn, hb4⟩
  refine ⟨_, rfl, ?_⟩
  rw [lv_3] at hC4 ⊢
  obtain ⟨aL4, cL4, rfl⟩ := hC4.1.slice
  obtain ⟨aS4, cS4, rfl⟩ := hC4.2.1.slice
  obtain ⟨aW4, cW4, rfl⟩ := hC4.2.2.slice
  obtain ⟨a0, a1, a2, rfl⟩ : ∃ a0 a1 a2, As = [a0, a1, a2] := by
    rcases As with _ | ⟨a0, _ | ⟨a1, _ | ⟨a2, _ | ⟨a3, r⟩⟩⟩⟩
    · simp [lvE] at hAl
    · simp [lvE] at hAl
    · simp [lvE] at hAl
    · exact ⟨a0, a1, a2, rfl⟩
    · simp [lvE] at hAl
  have k0 := hAn 0 (by decide)
  have k1 := hAn 1 (by decide)
  have k2 := hAn 2 (by decide)
  rw [lvA_0] at k0
  rw [lvA_1] at k1
  rw [lvA_2] at k2
  obtain ⟨i0, j0, r0⟩ := k0
  obtain ⟨i1, j1, r1⟩ := k1
  obtain ⟨i2, j2, r2⟩ := k2
  have i0 : a0.er = 0 := i0
  have j0 : a0.ep = 1 := j0
  have i1 : a1.er = 0 := i1
  have j1 : a1.ep = 2 := j1
  have i2 : a2.er = 0 := i2
  have j2 : a2.ep = 2 := j2
  have r1 : RdF _ w4 a1.v [⟨0, 1, 2⟩] := r1
  obtain ⟨bA, oA, cA, uA, fA, hPA, hvA, hrA⟩ := hAs4.opn (show 0 < [a0, a1, a2].length by simp)
  subst hvA
  obtain ⟨bF, oF, cF, uF, fF, hPF, hvF, hrF⟩ := r1.opn (show 0 < [(⟨0, 1, 2⟩ : Fen)].length by simp)
  have z3 : w.heap.size ≤ w3.heap.size := hr3.keeps.size
  have q3 := hpLt hr3.all
  simp at q3
  have hr4 := hr3.ret hb4 16 (.tu [.ag (coC lv3 (.slice aL4 lv3.T.L.length cL4) (.slice aS4 lv3.S.length cS4) (.slice aW4 lv3.W.length cW4)), .v (.slice (some ⟨bA, oA, none⟩) [a0, a1, a2].length cA)]) rfl _ (hr3.all.below hb4) (by simp) rfl
  refine seg cfg7_ok mixed PanicFree.body 1000 [false] [] hr4.rebase (by first | trivial | exact HpRep.nil | assumption) (by kernel_rfl) fun s_ hs_ => ?_
  simp (maxSteps := 10000000) [SX.vc, SX.stop, SX.contS, SX.contB, SX.sxStep, SX.stepPure, SX.stepNew, SX.stepStore, SX.guardIx, SX.evOp, SX.opd, SX.opds, SX.look, SX.putS, SX.gobs, SX.AllP, SX.leave, SX.lookC, SX.lookB, SX.lookT, SX.findK, SX.evBuiltin, SX.evBin, SX.evInt, SX.evLoad, SX.shapeUp, SX.evNew, SX.evStore, SX.spliceL, SX.SV.cells, SX.evPick, SX.pickOpd, SX.cnd, SX.TD.isAgg, SX.NotAgg, cfg7, coC, lv3]
  refine ⟨by (unfold SX.Ob; first | trivial | omega | ((try simp only [SX.inK]); (try simp [SX.den, SX.IsU8, SX.AllP, *]); (try omega))), ?_⟩
  intro a5 w5 hr5' _
  have hr5 := hr4.unbase hr5'
  have hbAF : bA ≠ bF := fun e => hPF.2 (e ▸ hPA)
  have hgA := hBo bA hPA
  have hgF := hPF.1
  have hL5 : RdL (fun x => w3.heap.size ≤ x) w5 (.slice aL4 2 cL4) lv3.T.L := hC4.1.keep hr5'.keeps (by simp [mutB]; omega)
  have hown := owner_ok w5 lv3 (.slice aL4 2 cL4) (.slice aS4 1 cS4) (.slice aW4 0 cW4) 0 hL5 (by decide)
  rw [lvH, lvN] at hown
  refine post_call 14 [.ag (coC lv3 (.slice aL4 2 cL4) (.slice aS4 1 cS4) (.slice aW4 0 cW4)), .v (.int .i64 0)] hr5 (by first | exact wanted_none rfl | exact wanted_zero (hr5.env.same rfl rfl rfl rfl) rfl (by simp) | exact wanted_zero (hr5.env.same rfl rfl rfl rfl) rfl (by simp [*])) rfl (callable 14 Try.func14) (hown) ?_
  rintro e6 w6 ⟨rfl, hb6⟩
  refine ⟨_, rfl, ?_⟩
  have h6 := hr5.ret hb6 28 (.tu [.v (.int .i64 1), .v (.int .i64 2)]) rfl _ (hr5.all.below hb6) (by simp) rfl
  have hrA5 := KeepsTo.same hr5'.keeps hrA (by simp [mutB]; omega)
  have hrF5 := KeepsTo.same hr5'.keeps hrF (by simp [mutB]; omega)
  have hrA6 := SO.rep_same hrA5 (hb6.block _ (SO.rep_lt hrA5))
  have hrF6 := SO.rep_same hrF5 (hb6.block _ (SO.rep_lt hrF5))
  obtain ⟨rowA, hrowA⟩ : ∃ rowA : Nat → List SV, rowA = fun j => if j = 0 then [.v (.int .i64 0), .v (.int .i64 1), .v a0.v] else if j = 1 then [.v (.int .i64 0), .v (.int .i64 2), .sl 2 bF oF 0 1 cF 3] else [.v (.int .i64 0), .v (.int .i64 2), .v a2.v] := ⟨_, rfl⟩
  have hA6 : (SO.arr oA 3 rowA 3 uA fA).rep w6 bA := rep_arr_sub hrA6 (by simp) (fun j hj => by
    have : j = 0 ∨ j = 1 ∨ j = 2 := by omega
    subst hrowA
    rcases this with rfl | rfl | rfl
    · show denL (anvC a0) = _
      simp [anvC, i0, j0]
    · show denL (anvC a1) = _
      simp [anvC, i1, j1, hvF, denL, den]
    · show denL (anvC a2) = _
      simp [anvC, i2, j2])
  have e0 : rowA 0 = [.v (.int .i64 0), .v (.int .i64 1), .v a0.v] := by rw [hrowA]; rfl
  have e1 : rowA 1 = [.v (.int .i64 0), .v (.int .i64 2), .sl 2 bF oF 0 1 cF 3] := by rw [hrowA]; rfl
  have e2 : rowA 2 = [.v (.int .i64 0), .v (.int .i64 2), .v a2.v] := by rw [hrowA]; rfl
  have hF6 : (SO.arr oF 1 (fun _ => fenC ⟨0, 1, 2⟩) 3 uF fF).rep w6 bF := rep_arr_sub hrF6 (by simp) (fun j hj => by
    obtain rfl : j = 0 := by omega
    rfl)
  have h7 := (h6.top 3 (.sl 1 bA oA 0 3 cA 3) rfl (by simp [den])).see [(sA, true, .cells (coC lv3 (.slice aL4 2 cL4) (.slice aS4 1 cS4) (.slice aW4 0 cW4)) 31), (bA, false, .arr oA 3 rowA 3 uA fA), (bF, false, .arr oF 1 (fun _ => fenC ⟨0, 1, 2⟩) 3 uF fF)] ⟨⟨h6.all.1.1, h6.all.1.2.1, by simp; omega⟩, ⟨hA6, by simp, by simpa using hbAF⟩, ⟨hF6, by simp, by simp⟩, trivial⟩
  refine seg cfg7_ok mixed PanicFree.body 1000 [] [(36, true), (43, true), (51, true), (61, true), (68, true), (72, true), (76, true)] h7.rebase (by first | trivial | exact HpRep.nil | assumption) (by kernel_rfl) fun s_ hs_ => ?_
  simp (maxSteps := 10000000) [SX.vc, SX.stop, SX.contS, SX.sxStep, SX.stepPure, SX.stepNew, SX.stepStore, SX.guardIx, SX.evOp, SX.opd, SX.opds, SX.look, SX.putS, SX.gobs, SX.AllP, SX.leave, SX.lookB, SX.lookT, SX.evBuiltin, SX.evBin, SX.evInt, SX.evEq, SX.evLoad, SX.shapeUp, SX.evFieldAddr, SX.evIndexAddr, SX.evFill, SX.evBuild, SX.szs, SX.cellsV, SX.evNew, SX.evStore, SX.spliceL, SX.SV.cells, SX.evPick, SX.cnd, SX.TD.isAgg, Go.Value.cells, cfg7, coC, lv3, e0, e1, fenC]
  refine ⟨by (unfold SX.Ob; first | trivial | omega | ((try simp only [SX.inK]); (try simp [SX.den, SX.IsU8, SX.AllP, *]); (try omega))), ?_⟩
  intro a8 w8 hr8 _
  refine post_eqP (C := cfg7) cfg7_ok (ok := fun t => t == 52) ok52 hr8 rfl rfl rfl (by kernel_rfl) (b := decide ((⟨0, 1, 2⟩ : Fen) = ⟨0, 1, 2⟩)) (eqFen ⟨0, 1, 2⟩ ⟨0, 1, 2⟩) (by first | exact wanted_none rfl | exact wanted_zero (hr8.env.same rfl rfl rfl rfl) rfl (by simp)) rfl (by simp) rfl fun a_ hr9 => ?_
  simp only [SX.eqR] at hr9
  refine seg cfg7_ok mixed PanicFree.body 1000 [] [(36, true), (43, true), (51, true), (61, true), (68, true), (72, true), (76, true)] hr9 (by first | trivial | exact HpRep.nil | assumption) (by kernel_rfl) fun s_ hs_ => ?_
  simp (maxSteps := 10000000) [SX.vc, SX.stop, SX.contS, SX.sxStep, SX.stepPure, SX.stepNew, SX.stepStore, SX.guardIx, SX.evOp, SX.opd, SX.look, SX.putS, SX.gobs, SX.AllP, SX.lookB, SX.lookT, SX.evBin, SX.evInt, SX.evLoad, SX.shapeUp, SX.evFieldAddr, SX.evIndexAddr, SX.evNew, SX.evStore, SX.evPick, SX.cnd, SX.TD.isAgg, cfg7, e2]
  refine ⟨by (unfold SX.Ob; first | trivial | omega | ((try simp only [SX.inK]); (try simp [SX.den, SX.IsU8, SX.AllP, *]); (try omega))), ?_⟩
  intro a10 w10 hr10 _
  have hL10 := (hL5.below hb6).keep hr10.keeps (by simp [mutB]; omega)
  have hr11 := h7.unbase hr10
  have hmem := member_ok w10 lv3 (.slice aL4 2 cL4) (.slice aS4 1 cS4) (.slice aW4 0 cW4) 1 hL10 (by decide)
  rw [decide_eq_true lvM] at hmem
  refine post_call 13 [.ag (coC lv3 (.slice aL4 2 cL4) (.slice aS4 1 cS4) (.slice aW4 0 cW4)), .v (.int .i64 1)] hr11 (by first | exact wanted_none rfl | exact wanted_zero (hr11.env.same rfl rfl rfl rfl) rfl (by simp) | exact wanted_zero (hr11.env.same rfl rfl rfl rfl) rfl (by simp [*])) rfl (callable 13 Try.func13) (hmem) ?_
  rintro e12 w12 ⟨rfl, hb12⟩
  refine ⟨_, rfl, ?_⟩
  have h12 := hr11.ret hb12 78 (.v (.bool true)) rfl _ (hr11.all.below hb12) (by simp) rfl
  refine seg cfg7_ok mixed PanicFree.body 1000 [] [(36, true), (43, true), (51, true), (61, true), (68, true), (72, true), (76, true)] h12 (by first | trivial | exact HpRep.nil | assumption) (by kernel_rfl) fun s_ hs_ => ?_
  simp (maxSteps := 10000000) [SX.vc, SX.stop, SX.contS, SX.sxStep, SX.stepPure, SX.guardIx, SX.evOp, SX.opd, SX.look, SX.putS, SX.gobs, SX.AllP, SX.leave, SX.lookB, SX.evPick, cfg7]
  refine ⟨by (unfold SX.Ob; first | trivial | omega | ((try simp only [SX.inK]); (try simp [SX.den, SX.IsU8, SX.AllP, *]); (try omega))), ?_⟩
  intro a13 w13 hr13 _
  exact post_retn (end1 hr13 rfl rfl ⟨rfl, hr13.keeps.toBelow⟩).1
end Go.Proofs.C8
