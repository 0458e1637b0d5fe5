/- CwI: texts of this proof, joined. -/
import Derived.Test.YtbhkpmnieopddaaCwC
import Derived.Test.YtbhkpmnieopddaaCwH
set_option linter.unusedVariables false
set_option linter.unusedSimpArgs false
set_option linter.unusedSectionVars false
namespace Go.Proofs.C8
open Go Go.Proofs Go.SX Go.RowKit Go.Proofs.L6
def goodE (e : Evt) : Prop := okE e ∧ ∀ x ∈ evL e, x ≤ 9223372036854775807
def natL (e : Evt) : List Nat := (evL e).map Int.toNat
theorem wr_putN (e : Evt) : wr e = putN (natL e) := by simp [wr, putAll, putN, natL, Function.comp_def]
theorem natL_len (e : Evt) : (natL e).length = 8 := by simp [natL, evL]
theorem natL_lt {e : Evt} (h : goodE e) : ∀ n ∈ natL e, n < 9223372036854775808 := fun n hn => by
  obtain ⟨x, hx, rfl⟩ := List.mem_map.1 hn
  have := h.2 x hx
  omega
theorem ints_natL {e : Evt} (h : goodE e) : ints (natL e) = evL e := by
  unfold ints natL
  rw [List.map_map]
  have : ∀ L : List Int, (∀ x ∈ L, 0 ≤ x) → L.map ((fun n : Nat => (n : Int)) ∘ Int.toNat) = L := fun L => by
    induction L with
    | nil => intro _; rfl
    | cons a r ih =>
      intro h
      rw [List.map_cons, ih fun x hx => h x (List.mem_cons_of_mem _ hx)]
      have := h a List.mem_cons_self
      congr 1
      show ((a.toNat : Nat) : Int) = a
      omega
  exact this _ h.1
def Tape (E : List Evt) (x : Evt) (B : List Nat) : Prop := goodE x ∧ (∀ e ∈ E, goodE e) ∧ ∃ t, t.length < (wr x).length ∧ t = (wr x).take t.length ∧ B = (E.map wr).flatten ++ t
theorem Tape.cmp {E : List Evt} {x e : Evt} {B : List Nat} (h : Tape (e :: E) x B) : Cmp B (putN (natL e)) ∧ (∃ Q, B = putN (natL e) ++ Q) ∧ Tape E x (B.drop (wr e).length) ∧ 0 < B.length := by
  obtain ⟨h1, h2, t, h3, h4, rfl⟩ := h
  have e1 : ((e :: E).map wr).flatten ++ t = putN (natL e) ++ ((E.map wr).flatten ++ t) := by simp [wr_putN]
  rw [e1]
  have hp : 0 < (putN (natL e)).length := by
    have : natL e = e.d.toNat :: ((evL e).tail.map Int.toNat) := rfl
    rw [this, putN_cons]
    have : 0 < (put e.d.toNat).length := by
      by_cases h : e.d.toNat < 128
      · rw [put_lt h]; simp
      · rw [put_ge h]; simp
    simp
    omega
  refine ⟨.inl ⟨_, rfl⟩, ⟨_, rfl⟩, ⟨h1, fun y hy => h2 y (List.mem_cons_of_mem _ hy), t, h3, h4, ?_⟩, by simp; omega⟩
  rw [wr_putN, List.drop_left]
theorem Tape.stop {x : Evt} {B : List Nat} (h : Tape [] x B) : Cmp B (putN (natL x)) ∧ ¬ ∃ Q, B = putN (natL x) ++ Q := by
  obtain ⟨h1, h2, t, h3, h4, hBt⟩ := h
  rw [hBt]
  clear hBt
  have hB0 : (([] : List Evt).map wr).flatten ++ t = t := rfl
  rw [hB0]
  rw [wr_putN] at h3 h4
  refine ⟨.inr ⟨h3, h4⟩, fun ⟨Q, hQ⟩ => ?_⟩
  have := congrArg List.length hQ
  simp at this
  omega
theorem RdCo.keepM' {P : Nat → Prop} {w1 w2 : World} {M : List Nat} {vL vS vW : Value} {c : Co} (h : RdCo P w1 vL vS vW c) (hk : KeepsTo w1 M w2) (hM : ∀ x ∈ M, ¬ P x) : RdCo P w2 vL vS vW c := ⟨h.1.keep hk hM, h.2.1.keep hk hM, h.2.2.keep hk hM⟩
theorem RdCo.below'' {P : Nat → Prop} {w1 w2 : World} {vL vS vW : Value} {c : Co} (h : RdCo P w1 vL vS vW c) (hb : Below w1.heap.size w1 w2) : RdCo P w2 vL vS vW c := ⟨h.1.below hb, h.2.1.below hb, h.2.2.below hb⟩
def evP (e : Evt) (i : Nat) : List SV := (evC e).take i ++ (evC evt0).drop i
def RepR (w : World) (c : Co) (E : List Evt) (ev : Ending) (w' : World) : Prop :=
  ∃ vL vS vW, ev = .returned (den (.tu [.ag (coC (allC c E) vL vS vW), .v (.int .i64 E.length)])) ∧ RdCo (fun x => w.heap.size ≤ x) w' vL vS vW (allC c E) ∧ Below w.heap.size w w'
def RpLoop (w : World) (sA : Nat) (PB : Nat → Prop) (c : Co) (E : List Evt) (x : Evt) (m : Nat) (a : Act) (w' : World) : Prop :=
  ∃ (k : Nat) (vL vS vW vB : Value) (B : List Nat), m = E.length - k ∧ k ≤ E.length ∧ Tape (E.drop k) x B ∧ B.length ≤ 1000000 ∧ RdU PB w' vB B ∧
    RdCo (fun x => w.heap.size ≤ x ∧ x ≠ sA ∧ x ≠ sA + 1) w' vL vS vW (allC c (E.take k)) ∧
    RepX (frame0 w) ⟨[(6, 0, .v (.int .i64 k)), (1, 0, .v vB), (2, 0, .ptr 0 sA 0), (4, 0, .ptr 1 (sA + 1) 0), (5, 0, .v (.int .i64 0))],
      [(sA, true, .cells (coC (allC c (E.take k)) vL vS vW) 31), (sA + 1, true, .cells [.v (.int .i64 0), .v (.int .i64 0), .v (.slice none 0 0), .v (.slice none 0 0), .v (.slice none 0 0), .v (.int .i64 0), .v (.int .i64 0)] 31)], 0, 0, 48, [], [], []⟩ a w'
set_option maxRecDepth 100000 in
set_option maxHeartbeats 64000000 in
theorem replay_ok {P PB : Nat → Prop} (w : World) (c : Co) (E : List Evt) (x : Evt) (B : List Nat) (vL vS vW vB : Value) (hc : RdCo P w vL vS vW c) (hB : RdU PB w vB B) (hT : Tape E x B) (hlen : B.length ≤ 1000000) (hn : E.length ≤ 1000) (hs : Small c) (hp : ∀ k, k < E.length → Pre (allC c (E.take k)) (nth evt0 E k)) :
    Calls Try.prog 19 (denL [.ag (coC c vL vS vW), .v vB]).toArray w (RepR w c E) := by
  have n1 := hs.n1
  have n2 := hs.n2
  have n3 := hs.n3
  have n4 := hs.n4
  obtain ⟨aL, cL, hvL⟩ := hc.1.slice
  obtain ⟨aS, cS, hvS⟩ := hc.2.1.slice
  obtain ⟨aW, cW, hvW⟩ := hc.2.2.slice
  subst hvL hvS hvW
  obtain ⟨aB, cB, rfl⟩ := hB.slice
  have hB := hB.mono (P' := fun x => x < w.heap.size) fun x h _ => h
  refine enter (F := frame0 w) Try.func19 rfl [.ag (coC c (.slice aL c.T.L.length cL) (.slice aS c.S.length cS) (.slice aW c.W.length cW)), .v (.slice aB B.length cB)] [] (by simp [Try.f19]) trivial (keeps0 w) fun a hr => ?_
  refine seg cfg19_ok mixed PanicFree.body 1000 [] [] hr (by first | trivial | exact HpRep.nil | assumption) (by kernel_rfl) fun sA hsA => ?_
  simp (maxSteps := 10000000) [SX.vc, SX.stop, SX.contS, SX.sxStep, SX.stepPure, SX.stepNew, SX.stepStore, SX.guardIx, SX.evOp, SX.opd, SX.look, SX.putS, SX.gobs, SX.AllP, SX.leave, SX.lookT, SX.evLoad, SX.shapeUp, SX.cellsV, SX.evNew, SX.evStore, SX.SV.cells, SX.env0, SX.TD.isAgg, Go.Value.cells, cfg19, Try.f19, coC]
  refine ⟨by (unfold SX.Ob; first | trivial | omega | ((try simp only [SX.inK]); (try simp [SX.den, SX.IsU8, SX.AllP, *]); (try omega))), ?_⟩
  intro a1 w1 hr1 _
  have z1 : w.heap.size ≤ w1.heap.size := hr1.keeps.size
  have q1 := hpLt hr1.all
  simp at q1
  refine post_call 21 [.ag (coC c (.slice aL c.T.L.length cL) (.slice aS c.S.length cS) (.slice aW c.W.length cW))] hr1 (wanted_none rfl) rfl (callable 21 Try.func21) (copied_ok w1 c _ _ _ (hc.below hr1.keeps.toBelow) (by omega) n2 (by omega) (by omega)) ?_
  rintro e2 w2 ⟨vL, vS, vW, m1, m2, rfl, hm0, hm1, hm2, hL2, hS2, hW2, hb2⟩
  refine ⟨_, rfl, ?_⟩
  have hr2 := hr1.ret hb2 14 (.ag (coC c vL vS vW)) rfl _ (hr1.all.below hb2) (by simp) rfl
  obtain ⟨ad2, cp2, rfl⟩ := hL2.slice
  obtain ⟨as2, cs2, rfl⟩ := hS2.slice
  obtain ⟨aw2, cw2, rfl⟩ := hW2.slice
  refine seg cfg19_ok mixed PanicFree.body 1000 [] [] hr2.rebase (by first | trivial | exact HpRep.nil | assumption) (by kernel_rfl) fun sD hsD => ?_
  simp (maxSteps := 10000000) [SX.vc, SX.stop, SX.contS, SX.contB, SX.sxStep, SX.stepPure, SX.stepNew, SX.stepStore, SX.guardIx, SX.evOp, SX.opd, SX.look, SX.putS, SX.gobs, SX.AllP, SX.leave, SX.lookT, SX.evBin, SX.evInt, SX.cellsV, SX.evNew, SX.evStore, SX.spliceL, SX.SV.cells, SX.NotAgg, Go.Value.cells, cfg19, coC]
  refine ⟨by (unfold SX.Ob; first | trivial | omega | ((try simp only [SX.inK]); (try simp [SX.den, SX.IsU8, SX.AllP, *]); (try omega))), ?_⟩
  intro a3 w3 hr3' _
  have hr3 := hr2.unbase hr3'
  have kp3 : ∀ (Q : Nat → Prop), (∀ x, Q x → w1.heap.size ≤ x) → ∀ x ∈ (frameAt w2 [(sA, true, .any), (sA + 1, true, .any)]).M, ¬ Q x := fun Q hQ x hx hq => by
    have := hQ x hq
    simp [frameAt, mutB] at hx
    omega
  have hL3 := hL2.keep hr3'.keeps (kp3 _ fun x h => h.1)
  have hS3 := hS2.keep hr3'.keeps (kp3 _ fun x h => by omega)
  have hW3 := hW2.keep hr3'.keeps (kp3 _ fun x h => by omega)
  refine post_loop (RpLoop w sA (fun x => x < w.heap.size) c E x) E.length ⟨0, _, _, _, _, B, rfl, by omega, hT, hlen, hB.below hr3.keeps.toBelow, ⟨hL3.rd.mono fun x _ h => ⟨by omega, by omega, by omega⟩, hS3.rd.mono fun x _ h => ⟨by omega, by omega, by omega⟩, hW3.rd.mono fun x _ h => ⟨by omega, by omega, by omega⟩⟩, hr3.re (by simp [envTo, SX.look]) hr3.all rfl rfl⟩ ?_
  rintro m a4 w4 ⟨k, uL, uS, uW, vB, Bk, rfl, hk, hTk, hlk, hB4, hC4, hr4⟩
  have z4 : w.heap.size ≤ w4.heap.size := hr4.keeps.size
  obtain ⟨uL, iL, rfl⟩ := hC4.1.slice
  obtain ⟨uS, iS, rfl⟩ := hC4.2.1.slice
  obtain ⟨uW, iW, rfl⟩ := hC4.2.2.slice
  obtain ⟨ck, hck⟩ : ∃ ck, allC c (E.take k) = ck := ⟨_, rfl⟩
  rw [hck] at hC4 hr4
  have q4 := hpLt hr4.all
  simp at q4
  by_cases hlt : k < E.length
  rotate_left
  · obtain rfl : k = E.length := by omega
    rw [List.drop_length] at hTk
    rw [List.take_length] at hck
    obtain ⟨g1, g2⟩ := hTk.stop
    obtain ⟨ab, cb, rfl⟩ := hB4.slice
    refine seg cfg19_ok mixed PanicFree.body 1000 [] [] hr4.rebase (by first | trivial | exact HpRep.nil | assumption) (by kernel_rfl) fun s_ hs_ => ?_
    simp (maxSteps := 10000000) [SX.vc, SX.stop, SX.contS, SX.contB, SX.sxStep, SX.stepPure, SX.stepNew, SX.stepStore, SX.guardIx, SX.evOp, SX.opd, SX.look, SX.putS, SX.gobs, SX.AllP, SX.leave, SX.lookT, SX.evBin, SX.evInt, SX.evLoad, SX.shapeUp, SX.evNew, SX.evStore, SX.spliceL, SX.SV.cells, SX.TD.isAgg, SX.NotAgg, cfg19, coC]
    refine ⟨by (unfold SX.Ob; first | trivial | omega | ((try simp only [SX.inK]); (try simp [SX.den, SX.IsU8, SX.AllP, *]); (try omega))), ?_⟩
    intro a5 w5 hr5' _
    have hr5 := hr4.unbase hr5'
    have ht := tnums_ok w5 _ Bk (natL x) (hB4.keep hr5'.keeps (by simp [mutB] <;> omega)) hlk g1 (natL_lt hTk.1) (by rw [natL_len]; omega)
    rw [natL_len] at ht
    refine post_call 38 [.v (.slice ab Bk.length cb), .v (.int .i64 8)] hr5 (wanted_none rfl) rfl (callable 38 Try.func38) ht ?_
    rintro e6 w6 ⟨hb6, ⟨hQ, _⟩ | ⟨_, rfl⟩⟩
    · exact absurd hQ g2
    refine ⟨_, rfl, ?_⟩
    have hr6 := hr5.ret hb6 19 (.tu [.v (.slice none 0 0), .v (.int .i64 0), .v (.int .i64 20)]) rfl _ (hr5.all.below hb6) (by simp) rfl
    have hC6 : RdCo (fun x => w.heap.size ≤ x ∧ x ≠ sA ∧ x ≠ sA + 1) w6 _ _ _ ck := (RdCo.keepM' hC4 hr5'.keeps (by simp [mutB])).below'' hb6
    refine seg cfg19_ok mixed PanicFree.body 1000 [true] [] hr6.rebase (by first | trivial | exact HpRep.nil | assumption) (by kernel_rfl) fun s_ hs_ => ?_
    simp (maxSteps := 10000000) [SX.vc, SX.stop, SX.contS, SX.contB, SX.sxStep, SX.stepPure, SX.stepNew, SX.stepStore, SX.guardIx, SX.evOp, SX.opd, SX.look, SX.putS, SX.gobs, SX.AllP, SX.leave, SX.lookT, SX.evBin, SX.evInt, SX.evLoad, SX.shapeUp, SX.evNew, SX.evStore, SX.spliceL, SX.SV.cells, SX.TD.isAgg, SX.NotAgg, cfg19, coC]
    refine ⟨by (unfold SX.Ob; first | trivial | omega | ((try simp only [SX.inK]); (try simp [SX.den, SX.IsU8, SX.AllP, *]); (try omega))), ?_⟩
    intro a7 w7 hr7' _
    have hr7 := hr6.unbase hr7'
    have hC7 := RdCo.keepM' hC6 hr7'.keeps (by simp [mutB])
    exact post_retn (endC2 hr7 rfl rfl rfl tok31 rfl rfl ⟨_, _, _, by rw [hck]; rfl, by rw [hck]; exact hC7.mono fun x _ h => h.1, hr7.keeps.toBelow⟩).1
  obtain ⟨e, he⟩ : ∃ e, nth evt0 E k = e := ⟨_, rfl⟩
  have hdk : E.drop k = e :: E.drop (k + 1) := by
    rw [List.drop_eq_getElem_cons hlt, ← he, nth_lt hlt]
  rw [hdk] at hTk
  have hge : goodE e := hTk.2.1 e List.mem_cons_self
  obtain ⟨g1, g2, g3, g4⟩ := hTk.cmp
  have hin := ints_natL hge
  obtain ⟨b, o0, cap, u, fz, hPb, hv, hrep⟩ := hB4.opn g4
  subst hv
  have hcap : Bk.length ≤ cap := hB4.cap rfl
  have h4 := (hr4.top 1 (.sl 2 b o0 0 Bk.length cap 1) rfl (by simp [den])).see [(sA, true, .cells (coC ck (.slice uL ck.T.L.length iL) (.slice uS ck.S.length iS) (.slice uW ck.W.length iW)) 31), (sA + 1, true, .cells [.v (.int .i64 0), .v (.int .i64 0), .v (.slice none 0 0), .v (.slice none 0 0), .v (.slice none 0 0), .v (.int .i64 0), .v (.int .i64 0)] 31), (b, false, .arr o0 Bk.length (fun j => u8C (nth 0 Bk j)) 1 u fz)] ⟨⟨hr4.all.1.1, hr4.all.1.2.1, by simp; omega⟩, ⟨hr4.all.2.1.1, hr4.all.2.1.2.1, by simp; omega⟩, ⟨hrep, by simp, by simp⟩, trivial⟩
  refine seg cfg19_ok mixed PanicFree.body 1000 [] [] h4.rebase (by first | trivial | exact HpRep.nil | assumption) (by kernel_rfl) fun s_ hs_ => ?_
  simp (maxSteps := 10000000) [SX.vc, SX.stop, SX.contS, SX.contB, SX.sxStep, SX.stepPure, SX.stepNew, SX.stepStore, SX.guardIx, SX.evOp, SX.opd, SX.look, SX.putS, SX.gobs, SX.AllP, SX.leave, SX.lookT, SX.evBin, SX.evInt, SX.cellsV, SX.evNew, SX.evStore, SX.spliceL, SX.SV.cells, SX.NotAgg, Go.Value.cells, cfg19, coC]
  refine ⟨by (unfold SX.Ob; first | trivial | omega | ((try simp only [SX.inK]); (try simp [SX.den, SX.IsU8, SX.AllP, *]); (try omega))), ?_⟩
  intro a5 w5 hr5' _
  have hr5 := h4.unbase hr5'
  have hC5 : RdCo (fun x => (w.heap.size ≤ x ∧ x ≠ sA ∧ x ≠ sA + 1) ∧ x < w4.heap.size) w5 _ _ _ ck := RdCo.keepM' (hC4.mono (P' := (fun x => (w.heap.size ≤ x ∧ x ≠ sA ∧ x ≠ sA + 1) ∧ x < w4.heap.size)) fun x h0 h => ⟨h, h0⟩) hr5'.keeps (by simp [mutB])
  have hB5 := hB4.keep hr5'.keeps (by simp [mutB] <;> omega)
  have ht := tnums_ok w5 _ Bk (natL e) hB5 hlk g1 (natL_lt hge) (by rw [natL_len]; omega)
  rw [natL_len] at ht
  refine post_call 38 [.sl 2 b o0 0 Bk.length cap 1, .v (.int .i64 8)] hr5 (wanted_none rfl) rfl (callable 38 Try.func38) ht ?_
  rintro e6 w6 ⟨hb6, ⟨_, v6, rfl, hO6⟩ | ⟨hQ, _⟩⟩
  rotate_left
  · exact absurd g2 hQ
  rw [hin] at hO6
  obtain ⟨bI, NI, cI, uI, rowI, hPI, hvI, hc0, hc1, hc2, hrepI, hrowI⟩ := hO6.opn (show 0 < (evL e).length by simp [evL])
  subst hvI
  refine ⟨_, rfl, ?_⟩
  obtain ⟨Wl, hWl⟩ : ∃ Wl, (putN (natL e)).length = Wl := ⟨_, rfl⟩
  have hr6 := hr5.ret hb6 19 (.tu [.v (.slice (some ⟨bI, 0, none⟩) (evL e).length cI), .v (.int .i64 (putN (natL e)).length), .v (.int .i64 0)]) rfl _ (hr5.all.below hb6) (by simp) rfl
  refine seg cfg19_ok mixed PanicFree.body 1000 [false] [] hr6.rebase (by first | trivial | exact HpRep.nil | assumption) (by kernel_rfl) fun sX hsX => ?_
  simp (maxSteps := 10000000) [SX.vc, SX.stop, SX.contS, SX.contB, SX.sxStep, SX.stepPure, SX.stepNew, SX.stepStore, SX.guardIx, SX.evOp, SX.opd, SX.look, SX.putS, SX.gobs, SX.AllP, SX.leave, SX.lookT, SX.evBin, SX.evInt, SX.cellsV, SX.evNew, SX.evStore, SX.spliceL, SX.SV.cells, SX.NotAgg, Go.Value.cells, cfg19, coC]
  refine ⟨by (unfold SX.Ob; first | trivial | omega | ((try simp only [SX.inK]); (try simp [SX.den, SX.IsU8, SX.AllP, *]); (try omega))), ?_⟩
  intro a7 w7 hr7' _
  have hr7 := hr6.unbase hr7'
  have z5 : w4.heap.size ≤ w5.heap.size := hr5'.keeps.size
  have z6 : w5.heap.size ≤ w6.heap.size := hb6.size
  have z7 : w6.heap.size ≤ w7.heap.size := hr7'.keeps.size
  have q7 := hpLt hr7.all
  simp at q7
  have hbI := SO.rep_lt hrepI
  have hC7 : RdCo (fun x => (w.heap.size ≤ x ∧ x ≠ sA ∧ x ≠ sA + 1) ∧ x < w4.heap.size) w7 (.slice uL ck.T.L.length iL) (.slice uS ck.S.length iS) (.slice uW ck.W.length iW) ck := RdCo.keepM' (RdCo.below'' hC5 hb6) hr7'.keeps (by simp [mutB] <;> omega)
  have hB7 := (hB5.below hb6).keep hr7'.keeps (by simp [mutB] <;> omega)
  have hrepI7 := KeepsTo.same hr7'.keeps hrepI (by simp [mutB] <;> omega)
  have hz7 : (SO.cells (evC evt0) 47).rep w7 sX := hr7.all.2.2.2.1.1
  refine post_call 36 [.ptr 3 sX 0] hr7 (wanted_none rfl) rfl (callable 36 Try.func36) (fields_ok w7 sX evt0 hz7) ?_
  rintro e8 w8 ⟨rfl, hb8⟩
  refine ⟨_, rfl, ?_⟩
  have hr8 := hr7.ret hb8 27 (.ag (ptrs 3 sX)) rfl _ (hr7.all.below hb8) (by simp) rfl
  have hrepI8 := SO.rep_same hrepI7 (hb8.block _ (SO.rep_lt hrepI7))
  have hbb : b < w.heap.size := hPb
  have h8 := ((hr8.top 7 (.sl 4 bI 0 0 8 cI 1) rfl (by simp [den, evL])).top 8 (.v (.int .i64 Wl)) rfl (by rw [hWl])).see [(sA, true, .cells (coC ck (.slice uL ck.T.L.length iL) (.slice uS ck.S.length iS) (.slice uW ck.W.length iW)) 31), (sA + 1, true, .cells [.v (.int .i64 0), .v (.int .i64 0), .v (.slice none 0 0), .v (.slice none 0 0), .v (.slice none 0 0), .v (.int .i64 0), .v (.int .i64 0)] 31), (b, false, .arr o0 Bk.length (fun j => u8C (nth 0 Bk j)) 1 u fz), (sX, true, .cells (evP e 0) 47), (bI, false, .arr 0 NI rowI 1 uI (0, 0))] ⟨⟨hr8.all.1.1, hr8.all.1.2.1, by simp; omega⟩, ⟨hr8.all.2.1.1, hr8.all.2.1.2.1, by simp; omega⟩, ⟨hr8.all.2.2.1.1, by simp, by (first | (simp; done) | (simp; omega))⟩, ⟨hr8.all.2.2.2.1.1, hr8.all.2.2.2.1.2.1, by (first | (simp; done) | (simp; omega))⟩, ⟨hrepI8, by simp, by simp⟩, trivial⟩
  have hC8 := RdCo.below'' hC7 hb8
  have hB8 := hB7.below hb8
  refine seg cfg19_ok mixed PanicFree.body 1000 [] [] h8.rebase (by first | trivial | exact HpRep.nil | assumption) (by kernel_rfl) fun s_ hs_ => ?_
  simp (maxSteps := 10000000) [SX.vc, SX.stop, SX.contS, SX.contB, SX.sxStep, SX.stepPure, SX.stepNew, SX.stepStore, SX.guardIx, SX.evOp, SX.opd, SX.look, SX.putS, SX.gobs, SX.AllP, SX.leave, SX.lookT, SX.evBin, SX.evInt, SX.cellsV, SX.evNew, SX.evStore, SX.spliceL, SX.SV.cells, SX.NotAgg, Go.Value.cells, cfg19, coC]
  refine ⟨by (unfold SX.Ob; first | trivial | omega | ((try simp only [SX.inK]); (try simp [SX.den, SX.IsU8, SX.AllP, *]); (try omega))), ?_⟩
  intro a9 w9 hr9' _
  have hr9 := h8.unbase hr9'
  have hC9 := RdCo.keepM' hC8 hr9'.keeps (by simp [mutB] <;> omega)
  have hB9 := hB8.keep hr9'.keeps (by simp [mutB] <;> omega)
  refine post_loop (fun m a w' => ∃ i : Nat, m = 8 - i ∧ i ≤ 8 ∧ RdCo (fun x => (w.heap.size ≤ x ∧ x ≠ sA ∧ x ≠ sA + 1) ∧ x < w4.heap.size) w' (.slice uL ck.T.L.length iL) (.slice uS ck.S.length iS) (.slice uW ck.W.length iW) ck ∧ RdU (fun x => x < w.heap.size) w' (.slice (some ⟨b, o0, none⟩) Bk.length cap) Bk ∧ RepX (frame0 w) ⟨[(28, 0, .v (.int .i64 i)), (27, 0, .ag (ptrs 3 sX)), (7, 0, .sl 4 bI 0 0 8 cI 1), (8, 0, .v (.int .i64 Wl)), (1, 0, .sl 2 b o0 0 Bk.length cap 1), (6, 0, .v (.int .i64 k)), (10, 0, .ptr 3 sX 0), (2, 0, .ptr 0 sA 0), (4, 0, .ptr 1 (sA + 1) 0), (5, 0, .v (.int .i64 0))], [(sA, true, .cells (coC ck (.slice uL ck.T.L.length iL) (.slice uS ck.S.length iS) (.slice uW ck.W.length iW)) 31), (sA + 1, true, .cells [.v (.int .i64 0), .v (.int .i64 0), .v (.slice none 0 0), .v (.slice none 0 0), .v (.slice none 0 0), .v (.int .i64 0), .v (.int .i64 0)] 31), (b, false, .arr o0 Bk.length (fun j => u8C (nth 0 Bk j)) 1 u fz), (sX, true, .cells (evP e i) 47), (bI, false, .arr 0 NI rowI 1 uI (0, 0))], 0, 0, 48, [], [], []⟩ a w') 8 ⟨0, rfl, by omega, hC9, hB9, hr9.re (by simp [envTo, SX.look, den]) hr9.all rfl rfl⟩ ?_
  rintro m a10 w10 ⟨i, rfl, hi, hC10, hB10, hr10⟩
  by_cases hi8 : i < 8
  · have hic : i = 0 ∨ i = 1 ∨ i = 2 ∨ i = 3 ∨ i = 4 ∨ i = 5 ∨ i = 6 ∨ i = 7 := by omega
    have hNI : 8 ≤ NI := by
      simp [evL] at hc1
      omega
    rcases hic with rfl | rfl | rfl | rfl | rfl | rfl | rfl | rfl
    · have hrq : rowI 0 = [.v (.int .i64 e.d)] := by rw [hrowI 0 (by simp [evL])]; rfl
      refine seg cfg19_ok mixed PanicFree.body 1000 [true] [] hr10.rebase (by first | trivial | exact HpRep.nil | assumption) (by kernel_rfl) fun s_ hs_ => ?_
      simp (maxSteps := 10000000) [SX.vc, SX.stop, SX.contS, SX.contB, SX.sxStep, SX.stepPure, SX.stepNew, SX.stepStore, SX.guardIx, SX.evOp, SX.opd, SX.look, SX.putS, SX.gobs, SX.AllP, SX.leave, SX.evBin, SX.evInt, SX.evIndex, SX.evNew, SX.evStore, cfg19, evP, evC, evt0, ptrs]
      refine ⟨by (unfold SX.Ob; first | trivial | omega | ((try simp only [SX.inK]); (try simp [SX.den, SX.IsU8, SX.AllP, *]); (try omega))), ?_⟩
      intro b11 u11 gr11' _
      refine post_indexA (k := 0) cfg19_ok gr11' rfl rfl rfl rfl rfl rfl rfl rfl (by decide) rfl (by simp) rfl fun c11 gi11 => ?_
      refine seg cfg19_ok mixed PanicFree.body 1000 [] [] gi11 (by first | trivial | exact HpRep.nil | assumption) (by kernel_rfl) fun s_ hs_ => ?_
      simp (maxSteps := 10000000) [SX.vc, SX.stop, SX.contS, SX.sxStep, SX.stepPure, SX.stepNew, SX.stepStore, SX.guardIx, SX.evOp, SX.opd, SX.look, SX.putS, SX.gobs, SX.AllP, SX.leave, SX.lookT, SX.evBin, SX.evInt, SX.arith, SX.evLoad, SX.shapeUp, SX.evIndexAddr, SX.evNew, SX.evStore, SX.spliceL, SX.SV.cells, SX.evNil, SX.TD.isAgg, SX.NotAgg, cfg19, hrq]
      refine ⟨by (unfold SX.Ob; first | trivial | omega | ((try simp only [SX.inK]); (try simp [SX.den, SX.IsU8, SX.AllP, *]); (try omega))), ?_⟩
      intro a12 w12 hr12' _
      have hr12 := hr10.unbase hr12'
      exact post_rnd (8 - 1) (by omega) ⟨1, rfl, by omega, RdCo.keepM' hC10 hr12'.keeps (by simp [mutB] <;> omega), hB10.keep hr12'.keeps (by simp [mutB] <;> omega), hr12.re (by simp [envTo, SX.look, den]) hr12.all rfl rfl⟩
    · have hrq : rowI 1 = [.v (.int .i64 e.h)] := by rw [hrowI 1 (by simp [evL])]; rfl
      refine seg cfg19_ok mixed PanicFree.body 1000 [true] [] hr10.rebase (by first | trivial | exact HpRep.nil | assumption) (by kernel_rfl) fun s_ hs_ => ?_
      simp (maxSteps := 10000000) [SX.vc, SX.stop, SX.contS, SX.contB, SX.sxStep, SX.stepPure, SX.stepNew, SX.stepStore, SX.guardIx, SX.evOp, SX.opd, SX.look, SX.putS, SX.gobs, SX.AllP, SX.leave, SX.evBin, SX.evInt, SX.evIndex, SX.evNew, SX.evStore, cfg19, evP, evC, evt0, ptrs]
      refine ⟨by (unfold SX.Ob; first | trivial | omega | ((try simp only [SX.inK]); (try simp [SX.den, SX.IsU8, SX.AllP, *]); (try omega))), ?_⟩
      intro b11 u11 gr11' _
      refine post_indexA (k := 1) cfg19_ok gr11' rfl rfl rfl rfl rfl rfl rfl rfl (by decide) rfl (by simp) rfl fun c11 gi11 => ?_
      refine seg cfg19_ok mixed PanicFree.body 1000 [] [] gi11 (by first | trivial | exact HpRep.nil | assumption) (by kernel_rfl) fun s_ hs_ => ?_
      simp (maxSteps := 10000000) [SX.vc, SX.stop, SX.contS, SX.sxStep, SX.stepPure, SX.stepNew, SX.stepStore, SX.guardIx, SX.evOp, SX.opd, SX.look, SX.putS, SX.gobs, SX.AllP, SX.leave, SX.lookT, SX.evBin, SX.evInt, SX.arith, SX.evLoad, SX.shapeUp, SX.evIndexAddr, SX.evNew, SX.evStore, SX.spliceL, SX.SV.cells, SX.evNil, SX.TD.isAgg, SX.NotAgg, cfg19, hrq]
      refine ⟨by (unfold SX.Ob; first | trivial | omega | ((try simp only [SX.inK]); (try simp [SX.den, SX.IsU8, SX.AllP, *]); (try omega))), ?_⟩
      intro a12 w12 hr12' _
      have hr12 := hr10.unbase hr12'
      exact post_rnd (8 - 2) (by omega) ⟨2, rfl, by omega, RdCo.keepM' hC10 hr12'.keeps (by simp [mutB] <;> omega), hB10.keep hr12'.keeps (by simp [mutB] <;> omega), hr12.re (by simp [envTo, SX.look, den]) hr12.all rfl rfl⟩
    · have hrq : rowI 2 = [.v (.int .i64 e.z)] := by rw [hrowI 2 (by simp [evL])]; rfl
      refine seg cfg19_ok mixed PanicFree.body 1000 [true] [] hr10.rebase (by first | trivial | exact HpRep.nil | assumption) (by kernel_rfl) fun s_ hs_ => ?_
      simp (maxSteps := 10000000) [SX.vc, SX.stop, SX.contS, SX.contB, SX.sxStep, SX.stepPure, SX.stepNew, SX.stepStore, SX.guardIx, SX.evOp, SX.opd, SX.look, SX.putS, SX.gobs, SX.AllP, SX.leave, SX.evBin, SX.evInt, SX.evIndex, SX.evNew, SX.evStore, cfg19, evP, evC, evt0, ptrs]
      refine ⟨by (unfold SX.Ob; first | trivial | omega | ((try simp only [SX.inK]); (try simp [SX.den, SX.IsU8, SX.AllP, *]); (try omega))), ?_⟩
      intro b11 u11 gr11' _
      refine post_indexA (k := 2) cfg19_ok gr11' rfl rfl rfl rfl rfl rfl rfl rfl (by decide) rfl (by simp) rfl fun c11 gi11 => ?_
      refine seg cfg19_ok mixed PanicFree.body 1000 [] [] gi11 (by first | trivial | exact HpRep.nil | assumption) (by kernel_rfl) fun s_ hs_ => ?_
      simp (maxSteps := 10000000) [SX.vc, SX.stop, SX.contS, SX.sxStep, SX.stepPure, SX.stepNew, SX.stepStore, SX.guardIx, SX.evOp, SX.opd, SX.look, SX.putS, SX.gobs, SX.AllP, SX.leave, SX.lookT, SX.evBin, SX.evInt, SX.arith, SX.evLoad, SX.shapeUp, SX.evIndexAddr, SX.evNew, SX.evStore, SX.spliceL, SX.SV.cells, SX.evNil, SX.TD.isAgg, SX.NotAgg, cfg19, hrq]
      refine ⟨by (unfold SX.Ob; first | trivial | omega | ((try simp only [SX.inK]); (try simp [SX.den, SX.IsU8, SX.AllP, *]); (try omega))), ?_⟩
      intro a12 w12 hr12' _
      have hr12 := hr10.unbase hr12'
      exact post_rnd (8 - 3) (by omega) ⟨3, rfl, by omega, RdCo.keepM' hC10 hr12'.keeps (by simp [mutB] <;> omega), hB10.keep hr12'.keeps (by simp [mutB] <;> omega), hr12.re (by simp [envTo, SX.look, den]) hr12.all rfl rfl⟩
    · have hrq : rowI 3 = [.v (.int .i64 e.e)] := by rw [hrowI 3 (by simp [evL])]; rfl
      refine seg cfg19_ok mixed PanicFree.body 1000 [true] [] hr10.rebase (by first | trivial | exact HpRep.nil | assumption) (by kernel_rfl) fun s_ hs_ => ?_
      simp (maxSteps := 10000000) [SX.vc, SX.stop, SX.contS, SX.contB, SX.sxStep, SX.stepPure, SX.stepNew, SX.stepStore, SX.guardIx, SX.evOp, SX.opd, SX.look, SX.putS, SX.gobs, SX.AllP, SX.leave, SX.evBin, SX.evInt, SX.evIndex, SX.evNew, SX.evStore, cfg19, evP, evC, evt0, ptrs]
      refine ⟨by (unfold SX.Ob; first | trivial | omega | ((try simp only [SX.inK]); (try simp [SX.den, SX.IsU8, SX.AllP, *]); (try omega))), ?_⟩
      intro b11 u11 gr11' _
      refine post_indexA (k := 3) cfg19_ok gr11' rfl rfl rfl rfl rfl rfl rfl rfl (by decide) rfl (by simp) rfl fun c11 gi11 => ?_
      refine seg cfg19_ok mixed PanicFree.body 1000 [] [] gi11 (by first | trivial | exact HpRep.nil | assumption) (by kernel_rfl) fun s_ hs_ => ?_
      simp (maxSteps := 10000000) [SX.vc, SX.stop, SX.contS, SX.sxStep, SX.stepPure, SX.stepNew, SX.stepStore, SX.guardIx, SX.evOp, SX.opd, SX.look, SX.putS, SX.gobs, SX.AllP, SX.leave, SX.lookT, SX.evBin, SX.evInt, SX.arith, SX.evLoad, SX.shapeUp, SX.evIndexAddr, SX.evNew, SX.evStore, SX.spliceL, SX.SV.cells, SX.evNil, SX.TD.isAgg, SX.NotAgg, cfg19, hrq]
      refine ⟨by (unfold SX.Ob; first | trivial | omega | ((try simp only [SX.inK]); (try simp [SX.den, SX.IsU8, SX.AllP, *]); (try omega))), ?_⟩
      intro a12 w12 hr12' _
      have hr12 := hr10.unbase hr12'
      exact post_rnd (8 - 4) (by omega) ⟨4, rfl, by omega, RdCo.keepM' hC10 hr12'.keeps (by simp [mutB] <;> omega), hB10.keep hr12'.keeps (by simp [mutB] <;> omega), hr12.re (by simp [envTo, SX.look, den]) hr12.all rfl rfl⟩
    · have hrq : rowI 4 = [.v (.int .i64 e.fr)] := by rw [hrowI 4 (by simp [evL])]; rfl
      refine seg cfg19_ok mixed PanicFree.body 1000 [true] [] hr10.rebase (by first | trivial | exact HpRep.nil | assumption) (by kernel_rfl) fun s_ hs_ => ?_
      simp (maxSteps := 10000000) [SX.vc, SX.stop, SX.contS, SX.contB, SX.sxStep, SX.stepPure, SX.stepNew, SX.stepStore, SX.guardIx, SX.evOp, SX.opd, SX.look, SX.putS, SX.gobs, SX.AllP, SX.leave, SX.evBin, SX.evInt, SX.evIndex, SX.evNew, SX.evStore, cfg19, evP, evC, evt0, ptrs]
      refine ⟨by (unfold SX.Ob; first | trivial | omega | ((try simp only [SX.inK]); (try simp [SX.den, SX.IsU8, SX.AllP, *]); (try omega))), ?_⟩
      intro b11 u11 gr11' _
      refine post_indexA (k := 4) cfg19_ok gr11' rfl rfl rfl rfl rfl rfl rfl rfl (by decide) rfl (by simp) rfl fun c11 gi11 => ?_
      refine seg cfg19_ok mixed PanicFree.body 1000 [] [] gi11 (by first | trivial | exact HpRep.nil | assumption) (by kernel_rfl) fun s_ hs_ => ?_
      simp (maxSteps := 10000000) [SX.vc, SX.stop, SX.contS, SX.sxStep, SX.stepPure, SX.stepNew, SX.stepStore, SX.guardIx, SX.evOp, SX.opd, SX.look, SX.putS, SX.gobs, SX.AllP, SX.leave, SX.lookT, SX.evBin, SX.evInt, SX.arith, SX.evLoad, SX.shapeUp, SX.evIndexAddr, SX.evNew, SX.evStore, SX.spliceL, SX.SV.cells, SX.evNil, SX.TD.isAgg, SX.NotAgg, cfg19, hrq]
      refine ⟨by (unfold SX.Ob; first | trivial | omega | ((try simp only [SX.inK]); (try simp [SX.den, SX.IsU8, SX.AllP, *]); (try omega))), ?_⟩
      intro a12 w12 hr12' _
      have hr12 := hr10.unbase hr12'
      exact post_rnd (8 - 5) (by omega) ⟨5, rfl, by omega, RdCo.keepM' hC10 hr12'.keeps (by simp [mutB] <;> omega), hB10.keep hr12'.keeps (by simp [mutB] <;> omega), hr12.re (by simp [envTo, SX.look, den]) hr12.all rfl rfl⟩
    · have hrq : rowI 5 = [.v (.int .i64 e.to)] := by rw [hrowI 5 (by simp [evL])]; rfl
      refine seg cfg19_ok mixed PanicFree.body 1000 [true] [] hr10.rebase (by first | trivial | exact HpRep.nil | assumption) (by kernel_rfl) fun s_ hs_ => ?_
      simp (maxSteps := 10000000) [SX.vc, SX.stop, SX.contS, SX.contB, SX.sxStep, SX.stepPure, SX.stepNew, SX.stepStore, SX.guardIx, SX.evOp, SX.opd, SX.look, SX.putS, SX.gobs, SX.AllP, SX.leave, SX.evBin, SX.evInt, SX.evIndex, SX.evNew, SX.evStore, cfg19, evP, evC, evt0, ptrs]
      refine ⟨by (unfold SX.Ob; first | trivial | omega | ((try simp only [SX.inK]); (try simp [SX.den, SX.IsU8, SX.AllP, *]); (try omega))), ?_⟩
      intro b11 u11 gr11' _
      refine post_indexA (k := 5) cfg19_ok gr11' rfl rfl rfl rfl rfl rfl rfl rfl (by decide) rfl (by simp) rfl fun c11 gi11 => ?_
      refine seg cfg19_ok mixed PanicFree.body 1000 [] [] gi11 (by first | trivial | exact HpRep.nil | assumption) (by kernel_rfl) fun s_ hs_ => ?_
      simp (maxSteps := 10000000) [SX.vc, SX.stop, SX.contS, SX.sxStep, SX.stepPure, SX.stepNew, SX.stepStore, SX.guardIx, SX.evOp, SX.opd, SX.look, SX.putS, SX.gobs, SX.AllP, SX.leave, SX.lookT, SX.evBin, SX.evInt, SX.arith, SX.evLoad, SX.shapeUp, SX.evIndexAddr, SX.evNew, SX.evStore, SX.spliceL, SX.SV.cells, SX.evNil, SX.TD.isAgg, SX.NotAgg, cfg19, hrq]
      refine ⟨by (unfold SX.Ob; first | trivial | omega | ((try simp only [SX.inK]); (try simp [SX.den, SX.IsU8, SX.AllP, *]); (try omega))), ?_⟩
      intro a12 w12 hr12' _
      have hr12 := hr10.unbase hr12'
      exact post_rnd (8 - 6) (by omega) ⟨6, rfl, by omega, RdCo.keepM' hC10 hr12'.keeps (by simp [mutB] <;> omega), hB10.keep hr12'.keeps (by simp [mutB] <;> omega), hr12.re (by simp [envTo, SX.look, den]) hr12.all rfl rfl⟩
    · have hrq : rowI 6 = [.v (.int .i64 e.now)] := by rw [hrowI 6 (by simp [evL])]; rfl
      refine seg cfg19_ok mixed PanicFree.body 1000 [true] [] hr10.rebase (by first | trivial | exact HpRep.nil | assumption) (by kernel_rfl) fun s_ hs_ => ?_
      simp (maxSteps := 10000000) [SX.vc, SX.stop, SX.contS, SX.contB, SX.sxStep, SX.stepPure, SX.stepNew, SX.stepStore, SX.guardIx, SX.evOp, SX.opd, SX.look, SX.putS, SX.gobs, SX.AllP, SX.leave, SX.evBin, SX.evInt, SX.evIndex, SX.evNew, SX.evStore, cfg19, evP, evC, evt0, ptrs]
      refine ⟨by (unfold SX.Ob; first | trivial | omega | ((try simp only [SX.inK]); (try simp [SX.den, SX.IsU8, SX.AllP, *]); (try omega))), ?_⟩
      intro b11 u11 gr11' _
      refine post_indexA (k := 6) cfg19_ok gr11' rfl rfl rfl rfl rfl rfl rfl rfl (by decide) rfl (by simp) rfl fun c11 gi11 => ?_
      refine seg cfg19_ok mixed PanicFree.body 1000 [] [] gi11 (by first | trivial | exact HpRep.nil | assumption) (by kernel_rfl) fun s_ hs_ => ?_
      simp (maxSteps := 10000000) [SX.vc, SX.stop, SX.contS, SX.sxStep, SX.stepPure, SX.stepNew, SX.stepStore, SX.guardIx, SX.evOp, SX.opd, SX.look, SX.putS, SX.gobs, SX.AllP, SX.leave, SX.lookT, SX.evBin, SX.evInt, SX.arith, SX.evLoad, SX.shapeUp, SX.evIndexAddr, SX.evNew, SX.evStore, SX.spliceL, SX.SV.cells, SX.evNil, SX.TD.isAgg, SX.NotAgg, cfg19, hrq]
      refine ⟨by (unfold SX.Ob; first | trivial | omega | ((try simp only [SX.inK]); (try simp [SX.den, SX.IsU8, SX.AllP, *]); (try omega))), ?_⟩
      intro a12 w12 hr12' _
      have hr12 := hr10.unbase hr12'
      exact post_rnd (8 - 7) (by omega) ⟨7, rfl, by omega, RdCo.keepM' hC10 hr12'.keeps (by simp [mutB] <;> omega), hB10.keep hr12'.keeps (by simp [mutB] <;> omega), hr12.re (by simp [envTo, SX.look, den]) hr12.all rfl rfl⟩
    · have hrq : rowI 7 = [.v (.int .i64 e.key)] := by rw [hrowI 7 (by simp [evL])]; rfl
      refine seg cfg19_ok mixed PanicFree.body 1000 [true] [] hr10.rebase (by first | trivial | exact HpRep.nil | assumption) (by kernel_rfl) fun s_ hs_ => ?_
      simp (maxSteps := 10000000) [SX.vc, SX.stop, SX.contS, SX.contB, SX.sxStep, SX.stepPure, SX.stepNew, SX.stepStore, SX.guardIx, SX.evOp, SX.opd, SX.look, SX.putS, SX.gobs, SX.AllP, SX.leave, SX.evBin, SX.evInt, SX.evIndex, SX.evNew, SX.evStore, cfg19, evP, evC, evt0, ptrs]
      refine ⟨by (unfold SX.Ob; first | trivial | omega | ((try simp only [SX.inK]); (try simp [SX.den, SX.IsU8, SX.AllP, *]); (try omega))), ?_⟩
      intro b11 u11 gr11' _
      refine post_indexA (k := 7) cfg19_ok gr11' rfl rfl rfl rfl rfl rfl rfl rfl (by decide) rfl (by simp) rfl fun c11 gi11 => ?_
      refine seg cfg19_ok mixed PanicFree.body 1000 [] [] gi11 (by first | trivial | exact HpRep.nil | assumption) (by kernel_rfl) fun s_ hs_ => ?_
      simp (maxSteps := 10000000) [SX.vc, SX.stop, SX.contS, SX.sxStep, SX.stepPure, SX.stepNew, SX.stepStore, SX.guardIx, SX.evOp, SX.opd, SX.look, SX.putS, SX.gobs, SX.AllP, SX.leave, SX.lookT, SX.evBin, SX.evInt, SX.arith, SX.evLoad, SX.shapeUp, SX.evIndexAddr, SX.evNew, SX.evStore, SX.spliceL, SX.SV.cells, SX.evNil, SX.TD.isAgg, SX.NotAgg, cfg19, hrq]
      refine ⟨by (unfold SX.Ob; first | trivial | omega | ((try simp only [SX.inK]); (try simp [SX.den, SX.IsU8, SX.AllP, *]); (try omega))), ?_⟩
      intro a12 w12 hr12' _
      have hr12 := hr10.unbase hr12'
      exact post_rnd (8 - 8) (by omega) ⟨8, rfl, by omega, RdCo.keepM' hC10 hr12'.keeps (by simp [mutB] <;> omega), hB10.keep hr12'.keeps (by simp [mutB] <;> omega), hr12.re (by simp [envTo, SX.look, den]) hr12.all rfl rfl⟩
  obtain rfl : i = 8 := by omega
  refine seg cfg19_ok mixed PanicFree.body 1000 [false] [] hr10.rebase (by first | trivial | exact HpRep.nil | assumption) (by kernel_rfl) fun s_ hs_ => ?_
  simp (maxSteps := 10000000) [SX.vc, SX.stop, SX.contS, SX.contB, SX.contW, SX.sxStep, SX.stepPure, SX.stepNew, SX.stepStore, SX.guardIx, SX.evOp, SX.opd, SX.look, SX.putS, SX.gobs, SX.AllP, SX.leave, SX.lookT, SX.evBin, SX.evInt, SX.evLoad, SX.shapeUp, SX.evNew, SX.evStore, SX.popTo, SX.TD.isAgg, cfg19, coC, evP, evC, evt0]
  refine ⟨by (unfold SX.Ob; first | trivial | omega | ((try simp only [SX.inK]); (try simp [SX.den, SX.IsU8, SX.AllP, *]); (try omega))), ?_⟩
  intro a11 w11 hr11' _
  have hr11 := hr10.unbase hr11'
  have hC11 := RdCo.keepM' hC10 hr11'.keeps (by simp [mutB] <;> omega)
  have hB11 := hB10.keep hr11'.keeps (by simp [mutB] <;> omega)
  have hpre := hp k hlt
  rw [hck, he] at hpre
  have hdo := do_ok w11 ck e _ _ _ hC11 hpre
  unfold DoR at hdo
  obtain ⟨A, hA⟩ : ∃ A, doA ck e = A := ⟨_, rfl⟩
  obtain ⟨d, hd⟩ : ∃ d, doC ck e = d := ⟨_, rfl⟩
  rw [hA, hd] at hdo
  refine post_call 12 [.ag (coC ck (.slice uL ck.T.L.length iL) (.slice uS ck.S.length iS) (.slice uW ck.W.length iW)), .ag (evC e)] hr11 (wanted_none rfl) rfl (callable 12 Try.func12) hdo ?_
  rintro e12 w12 ⟨vL, vS, vW, va, rfl, hD12, hv12, hb12⟩
  refine ⟨_, rfl, ?_⟩
  obtain ⟨dL, kL, rfl⟩ := hD12.1.slice
  obtain ⟨dS, kS, rfl⟩ := hD12.2.1.slice
  obtain ⟨dW, kW, rfl⟩ := hD12.2.2.slice
  obtain ⟨av, cv, rfl⟩ := hv12.slice
  have hr12 := hr11.ret hb12 42 (.tu [.ag (coC d (.slice dL d.T.L.length kL) (.slice dS d.S.length kS) (.slice dW d.W.length kW)), .ag (ansC A (.slice av A.L.length cv))]) rfl _ (hr11.all.below hb12) (by simp) rfl
  have hWB : Wl ≤ Bk.length := by
    obtain ⟨Q, hQ⟩ := g2
    rw [hQ, ← hWl]
    simp
  obtain ⟨base, hbase⟩ : ∃ base, (if cap = Wl then 0 else Wl) = base := ⟨_, rfl⟩
  refine seg cfg19_ok mixed PanicFree.body 1000 [] [] hr12.rebase (by first | trivial | exact HpRep.nil | assumption) (by kernel_rfl) fun s_ hs_ => ?_
  simp (maxSteps := 10000000) [SX.vc, SX.stop, SX.contS, SX.sxStep, SX.stepPure, SX.stepNew, SX.stepStore, SX.guardIx, SX.evOp, SX.opd, SX.optOpd, SX.look, SX.putS, SX.gobs, SX.AllP, SX.leave, SX.lookT, SX.evBin, SX.evInt, SX.arith, SX.evNew, SX.evStore, SX.spliceL, SX.SV.cells, SX.evSlice, SX.bnd, SX.NotAgg, cfg19, coC, ansC, hbase]
  refine ⟨by (unfold SX.Ob; first | trivial | omega | ((try simp only [SX.inK]); (try simp [SX.den, SX.IsU8, SX.AllP, *]); (try omega))), ?_⟩
  intro a13 w13 hr13' _
  have hr13 := hr12.unbase hr13'
  have hrest : RdU (fun x => x < w.heap.size) w13 (.slice (some ⟨b, o0 + base * 1, none⟩) (Bk.length - Wl) (cap - Wl)) (Bk.drop Wl) := by
    by_cases hpe : Wl = Bk.length
    · rw [hpe, List.drop_length, Nat.sub_self]
      exact .inl ⟨rfl, _, _, rfl⟩
    · have hne : ¬ cap = Wl := by omega
      rw [if_neg hne] at hbase
      subst hbase
      have h := RdS.part (enc := u8C) (d := 0) (L := Bk) (base := Wl) (len := Bk.length - Wl) (cap := cap - Wl) (P := fun x => x < w.heap.size) hbb rfl hr13.all.2.2.1.1 (by omega) (by omega)
      rwa [List.take_of_length_le (by simp)] at h
  have q11 := hpLt hr11.all
  simp at q11
  have hD13 : RdCo (fun x => w11.heap.size ≤ x) w13 _ _ _ d := RdCo.keepM' hD12 hr13'.keeps (by simp [mutB] <;> omega)
  have hcd : allC c (E.take (k + 1)) = d := by rw [allC_take hlt he, hck, hd]
  have g3' : Tape (E.drop (k + 1)) x (Bk.drop Wl) := by rw [← hWl, ← wr_putN]; exact g3
  exact post_rnd (E.length - (k + 1)) (by omega) ⟨k + 1, .slice dL d.T.L.length kL, .slice dS d.S.length kS, .slice dW d.W.length kW, _, Bk.drop Wl, rfl, hlt, g3', by simp; omega, hrest, by rw [hcd]; exact hD13.mono fun x _ h => ⟨by omega, by omega, by omega⟩, by rw [hcd]; exact hr13.re (by simp [envTo, SX.look, den]) (hr13.all.take 2) rfl rfl⟩
end Go.Proofs.C8
