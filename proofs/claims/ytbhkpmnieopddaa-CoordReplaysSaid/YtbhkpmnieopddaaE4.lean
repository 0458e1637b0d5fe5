/- E4: texts of this proof, joined. -/
import Derived.Test.YtbhkpmnieopddaaE3
set_option linter.unusedVariables false
set_option linter.unusedSimpArgs false
set_option linter.unusedSectionVars false
namespace Go.Proofs.C8
open Go Go.Proofs Go.SX Go.RowKit Go.Proofs.L6
theorem OwS.only {α : Type} {enc : α → List SV} {sz : Nat} {d : α} {P : Nat → Prop} {w : World} {v : Value} {L : List α} (h : OwS enc sz d P w v L) : ∃ B : List Nat, (∀ x ∈ B, P x ∧ x < w.heap.size) ∧ OwS enc sz d (fun x => x ∈ B) w v L := by
  rcases h with h | ⟨b, N, cap, u, row, hP, h1, h2, h3, h4, h5, h6⟩
  · exact ⟨[], by simp, .inl h⟩
  · exact ⟨[b], fun x hx => (by
      have e : x = b := by simpa using hx
      subst e
      exact ⟨hP, SO.rep_lt h5⟩), .inr ⟨b, N, cap, u, row, by simp, h1, h2, h3, h4, h5, h6⟩⟩
theorem goneC_take {c : Co} {M : List Lse} {k : Nat} {x : Lse} (h : k < M.length) (hx : nth lse0 M k = x) : goneC c (M.take (k + 1)) = gone1 (goneC c (M.take k)) x := by
  unfold goneC
  rw [take_nth (d := lse0) h, hx, List.foldl_append]
  rfl
theorem gone1_T {c : Co} {x : Lse} : (gone1 c x).T = c.T ∧ (gone1 c x).ttl = c.ttl ∧ (gone1 c x).zn = c.zn := by
  unfold gone1
  split <;> exact ⟨rfl, rfl, rfl⟩
theorem stepS_len (o : List Spn) (e : Spn) : (S7.stepS o e).length ≤ o.length + 1 := by
  rcases List.eq_nil_or_concat o with rfl | ⟨l, y, rfl⟩
  · rw [S7.stepS_nil]
    simp
  · rw [List.concat_eq_append, S7.stepS_concat]
    split <;> simp
theorem joinGo_len : ∀ (L o : List Spn), (S7.joinGoS o L).length ≤ o.length + L.length
  | [], o => by simp [S7.joinGoS]
  | e :: r, o => by
    have h1 := joinGo_len r (S7.stepS o e)
    have h2 := stepS_len o e
    show (S7.joinGoS (S7.stepS o e) r).length ≤ _
    simp only [List.length_cons]
    omega
theorem joinS_len' : ∀ L : List Spn, (S7.joinS L).length ≤ L.length := fun L => by
  have := joinGo_len L []
  simpa [S7.joinS] using this
theorem gone1_len {c : Co} {x : Lse} : (gone1 c x).S.length ≤ c.S.length ∧ (gone1 c x).W.length ≤ c.W.length := by
  unfold gone1
  split
  · exact ⟨Nat.le_refl _, Nat.le_refl _⟩
  · refine ⟨?_, List.length_filter_le _ _⟩
    show (goneS c.S (x.k - 2000)).length ≤ _
    unfold goneS S7.takeL
    split
    · split
      · exact Nat.le_trans (joinS_len' _) (by simp)
      · simp
    · exact Nat.le_refl _
theorem goneC_len {c : Co} : ∀ M : List Lse, (goneC c M).S.length ≤ c.S.length ∧ (goneC c M).W.length ≤ c.W.length ∧ (goneC c M).T = c.T ∧ (goneC c M).ttl = c.ttl ∧ (goneC c M).zn = c.zn := by
  intro M
  induction M generalizing c with
  | nil => exact ⟨Nat.le_refl _, Nat.le_refl _, rfl, rfl, rfl⟩
  | cons x r ih =>
    have h1 := gone1_len (c := c) (x := x)
    have h2 := gone1_T (c := c) (x := x)
    have h3 := ih (c := gone1 c x)
    exact ⟨Nat.le_trans h3.1 h1.1, Nat.le_trans h3.2.1 h1.2, h3.2.2.1.trans h2.1, h3.2.2.2.1.trans h2.2.1, h3.2.2.2.2.trans h2.2.2⟩
def GnLoop (w : World) (D : Nat) (Bw : List Nat) (PS : Nat → Prop) (c : Co) (e : Evt) (vL : Value) (v : Value) (M : List Lse) (m : Nat) (a : Act) (w' : World) : Prop :=
  ∃ (k : Nat) (vS vW : Value), m = M.length - k ∧ k ≤ M.length ∧ RdP (fun x => PS x ∨ w.heap.size ≤ x) w' vS (goneC c (M.take k)).S ∧ OwF (fun x => x ∈ Bw) w' vW (goneC c (M.take k)).W ∧
    RepX ⟨w, w.heap.size, D :: Bw⟩ ⟨[(12, 0, .v (.int .i64 k)), (11, 0, .v (.int .i64 M.length)), (10, 0, .v v), (0, 0, .ptr 0 D 0)], [(D, true, .cells (deskC (goneC c (M.take k)) e vL vS vW) 74)], 0, 0, 51, [], [], []⟩ a w'
def GoneR (w : World) (D : Nat) (QW PS : Nat → Prop) (c : Co) (e : Evt) (vL : Value) (M : List Lse) (ev : Ending) (w' : World) : Prop :=
  ∃ (B : List Nat) (vS vW : Value), ev = .returned (.tuple #[]) ∧ (∀ x ∈ B, x = D ∨ QW x) ∧ KeepsTo w B w' ∧ (SO.cells (deskC (goneC c M) e vL vS vW) 74).rep w' D ∧ RdP (fun x => PS x ∨ w.heap.size ≤ x) w' vS (goneC c M).S ∧ OwF QW w' vW (goneC c M).W
set_option maxRecDepth 100000 in
set_option maxHeartbeats 32000000 in
theorem gone_ok {PS PM QW : Nat → Prop} (w : World) (D : Nat) (c : Co) (e : Evt) (vL vS vW v : Value) (M : List Lse) (hD : (SO.cells (deskC c e vL vS vW) 74).rep w D) (hS : RdP PS w vS c.S) (hW : OwF QW w vW c.W) (hM : RdL PM w v M)
    (nS : ¬ PS D) (nW : ¬ QW D) (nM : ¬ PM D) (SW : ∀ x, PS x → ¬ QW x) (MW : ∀ x, PM x → ¬ QW x) (n1 : M.length ≤ 50000) (n3 : c.S.length ≤ 50000) (n4 : c.W.length ≤ 50000) (hk : ∀ x ∈ M, 0 ≤ x.k ∧ x.k ≤ 1000000) :
    Calls Try.prog 60 (denL [.ptr 0 D 0, .v v]).toArray w (GoneR w D QW PS c e vL M) := by
  obtain ⟨Bw, hBw, hW⟩ := OwS.only hW
  obtain ⟨ad, cp, rfl⟩ := hM.slice
  have hE : HpAll ⟨w, w.heap.size, D :: Bw⟩ w [(D, true, .cells (deskC c e vL vS vW) 74)] := ⟨⟨hD, fun _ => .inr (by simp), by simp⟩, trivial⟩
  have hDB : D ∉ Bw := fun h => nW (hBw D h).1
  have sP : ∀ x, PS x ∨ w.heap.size ≤ x → x ∉ D :: Bw := fun x h hx => by
    have hDw : D < w.heap.size := SO.rep_lt hD
    rcases List.mem_cons.1 hx with rfl | hx
    · rcases h with h | h
      · exact nS h
      · omega
    · rcases h with h | h
      · exact SW x h (hBw x hx).1
      · have := (hBw x hx).2
        omega
  have sM : ∀ x, PM x → x ∉ D :: Bw := fun x h hx => by
    rcases List.mem_cons.1 hx with rfl | hx
    · exact nM h
    · exact MW x h (hBw x hx).1
  refine enter (F := ⟨w, w.heap.size, D :: Bw⟩) Try.func60 rfl [.ptr 0 D 0, .v (.slice ad M.length cp)] _ (by simp [Try.f60]) hE (KeepsTo.refl w _) fun a hr => ?_
  have hDw : D < w.heap.size := SO.rep_lt hD
  refine seg cfg60_ok mixed PanicFree.body 1000 [] [] hr.rebase (by first | trivial | exact HpRep.nil | assumption) (by kernel_rfl) fun s_ hs_ => ?_
  simp (maxSteps := 10000000) [SX.vc, SX.stop, SX.contS, SX.sxStep, SX.stepPure, SX.guardIx, SX.evOp, SX.opd, SX.opds, SX.look, SX.putS, SX.gobs, SX.AllP, SX.leave, SX.lookT, SX.evBuiltin, SX.env0, cfg60, Try.f60]
  refine ⟨by (unfold SX.Ob; first | trivial | omega | ((try simp only [SX.inK]); (try simp [SX.den, SX.IsU8, SX.AllP, *]); (try omega))), ?_⟩
  intro a1 w1 hr1' _
  have hr1 := hr.unbase hr1'
  refine post_loop (GnLoop w D Bw PS c e vL (.slice ad M.length cp) M) M.length ⟨0, vS, vW, rfl, by omega, (hS.keep hr1.keeps fun x hx h => sP x (.inl h) hx).mono fun x _ h => .inl h, hW.keep hr1'.keeps (by simpa [frameAt, mutB] using hDB), hr1.re (by simp [envTo, SX.look]) hr1.all rfl rfl⟩ ?_
  rintro m a2 w2 ⟨k, vS2, vW2, rfl, hk2, hS2, hW2, hr2⟩
  obtain ⟨c2, hc2⟩ : ∃ x, goneC c (M.take k) = x := ⟨_, rfl⟩
  have hl2 := goneC_len (c := c) (M.take k)
  rw [hc2] at hS2 hW2 hr2 hl2
  have z2 : w.heap.size ≤ w2.heap.size := hr2.keeps.size
  by_cases hlt : k < M.length
  · obtain ⟨b, o0, cap, u, fz, hP, hv, hrep⟩ := hM.opn hlt
    cases hv
    have hrep2 := KeepsTo.same (M := D :: Bw) hr2.keeps hrep (sM b hP)
    have hbD : D ≠ b := fun h => nM (h ▸ hP)
    obtain ⟨x, hx⟩ : ∃ x, nth lse0 M k = x := ⟨_, rfl⟩
    have hx0 : 0 ≤ x.k ∧ x.k ≤ 1000000 := hk x (by rw [← hx, nth_lt hlt]; exact List.getElem_mem hlt)
    have hnext := goneC_take (c := c) hlt hx
    rw [hc2] at hnext
    have h2 := (hr2.top 10 (.sl 1 b o0 0 M.length cp 4) rfl (by simp [den])).see [(D, true, .cells (deskC c2 e vL vS2 vW2) 74), (b, false, .arr o0 M.length (fun j => lseC (nth lse0 M j)) 4 u fz)] ⟨⟨hr2.all.1.1, hr2.all.1.2.1, by simpa using hbD⟩, HpAll.one hrep2⟩
    by_cases hneg : x.k - 2000 < 0
    · have hg : gone1 c2 x = c2 := if_pos hneg
      refine seg cfg60_ok mixed PanicFree.body 1000 [true, true] [] h2.rebase (by first | trivial | exact HpRep.nil | assumption) (by kernel_rfl) fun s_ hs_ => ?_
      simp (maxSteps := 10000000) [SX.vc, SX.stop, SX.contS, SX.contB, SX.contW, SX.sxStep, SX.stepPure, SX.stepNew, SX.stepStore, SX.guardIx, SX.evOp, SX.opd, SX.look, SX.putS, SX.gobs, SX.AllP, SX.leave, SX.lookT, SX.evBin, SX.evInt, SX.arith, SX.evLoad, SX.shapeUp, SX.evFieldAddr, SX.evIndexAddr, SX.cellsV, SX.evNew, SX.evStore, SX.spliceL, SX.SV.cells, SX.popTo, SX.TD.isAgg, SX.NotAgg, Go.Value.cells, cfg60, lseC, hx, hneg]
      refine ⟨by (unfold SX.Ob; first | trivial | omega | ((try simp only [SX.inK]); (try simp [SX.den, SX.IsU8, SX.AllP, *]); (try omega))), ?_⟩
      intro a3 w3 hr3' _
      have hr3 := h2.unbase hr3'
      have q3 := hpLt hr3.all
      exact post_rnd (M.length - (k + 1)) (by omega) ⟨k + 1, vS2, vW2, rfl, hlt, by rw [hnext, hg]; exact hS2.keep hr3'.keeps (fun z hz h => sP z h (by simp [mutB] at hz; simp [hz])), by rw [hnext, hg]; exact hW2.keep hr3'.keeps (by simpa [frameAt, mutB] using hDB), hr3.re (by simp [envTo, SX.look, den]) (by rw [hnext, hg]; exact hr3.all.take 1) rfl rfl⟩
    obtain ⟨aS, cS, rfl⟩ := hS2.slice
    refine seg cfg60_ok mixed PanicFree.body 1000 [true, false] [] h2.rebase (by first | trivial | exact HpRep.nil | assumption) (by kernel_rfl) fun sX hsX => ?_
    simp (maxSteps := 10000000) [SX.vc, SX.stop, SX.contS, SX.contB, SX.contR, SX.contD, SX.sxStep, SX.stepPure, SX.stepNew, SX.stepStore, SX.stepKeep, SX.guardIx, SX.evOp, SX.opd, SX.look, SX.putS, SX.gobs, SX.AllP, SX.leave, SX.lookT, SX.lookN, SX.evBin, SX.evInt, SX.arith, SX.evLoad, SX.shapeUp, SX.evFieldAddr, SX.evIndexAddr, SX.cellsV, SX.evNew, SX.evStore, SX.spliceL, SX.SV.cells, SX.evNil, SX.TD.isAgg, SX.NotAgg, SX.thaw, Go.Value.cells, cfg60, lseC, hx, hneg, deskC, coC, evC]
    refine ⟨by (unfold SX.Ob; first | trivial | omega | ((try simp only [SX.inK]); (try simp [SX.den, SX.IsU8, SX.AllP, *]); (try omega))), ?_⟩
    intro a3 w3 hr3' ht3
    have hr3 := h2.unbase hr3'
    have q3 := hpLt hr3.all
    simp at q3
    have hS3 := hS2.keep hr3'.keeps (fun z hz h => sP z h (by simp [mutB] at hz; simp [hz]))
    have hnX : ¬ sX ∈ Bw := fun hm => by
      have := (hBw _ hm).2
      omega
    have hnX1 : ¬ sX + 1 ∈ Bw := fun hm => by
      have := (hBw _ hm).2
      omega
    have hnb : ¬ b ∈ Bw := fun hm => sM b hP (List.mem_cons.2 (.inr hm))
    have hW3 := hW2.keep hr3'.keeps (by simpa [frameAt, mutB] using hDB)
    have z3 : w2.heap.size ≤ w3.heap.size := hr3'.keeps.size
    refine post_callD 80 [.v (.slice aS c2.S.length cS), .v (.int .i64 (x.k - 2000))] hr3 rfl (by first | exact wanted_none rfl | exact wanted_zero (hr3.env.same rfl rfl rfl rfl) rfl (by simp) | exact wanted_zero (hr3.env.same rfl rfl rfl rfl) rfl (by simp [*])) rfl (callable 80 Try.func80) (S7.Take_ok w3 _ c2.S (x.k - 2000) hS3 (by omega)) ?_
    rintro e4 w4 ⟨v4, v5, rfl, hA4, hB4, hb4⟩
    have ht4 := HpRep_below ht3 hb4
    refine ⟨_, rfl, ht4, ?_⟩
    have hr4 := hr3.ret hb4 28 (.tu [.v v4, .v v5, .v (.int .i64 (S7.takeE c2.S (x.k - 2000)))]) rfl _ (hr3.all.below hb4) (by simp) rfl
    obtain ⟨ad4, cp4, rfl⟩ := hA4.slice
    have z4 : w3.heap.size ≤ w4.heap.size := hb4.size
    have hW4 := hW3.below hb4
    obtain ⟨P5, hP5⟩ : ∃ P5 : Nat → Prop, ∀ z, P5 z ↔ (PS z ∨ w.heap.size ≤ z) ∧ z ≠ D ∧ z ≠ sX ∧ z ≠ sX + 1 := ⟨_, fun _ => Iff.rfl⟩
    have hk5 : ∀ z, z = D ∨ z = sX ∨ z = sX + 1 → ¬ P5 z := fun z hz h => by
      have := ((hP5 z).1 h).2
      omega
    have hS3' := (hS2.mono (P' := P5) fun z h0 h => (hP5 z).2 ⟨h, fun hz => sP z h (by simp [hz]), by omega, by omega⟩).keep hr3'.keeps (fun z hz h => hk5 z (by simp [mutB] at hz; simp [hz]) h)
    have hS4 := hS3'.below hb4
    have hA4' := hA4.mono (P' := P5) fun z h0 h => (hP5 z).2 ⟨.inr (by omega), by omega, by omega, by omega⟩
    by_cases hT : S7.takeE c2.S (x.k - 2000) = 0
    · have hg : gone1 c2 x = { c2 with S := S7.takeL c2.S (x.k - 2000), W := keepL (fun f => decide (f.h = x.k - 2000)) c2.W } := by rw [gone1, if_neg hneg, goneS, if_pos hT]
      refine seg cfg60_ok mixed PanicFree.body 1000 [true] [] hr4.rebase (by first | trivial | exact HpRep.nil | assumption) (by kernel_rfl) fun s_ hs_ => ?_
      simp (maxSteps := 10000000) [SX.vc, SX.stop, SX.contS, SX.contB, SX.contD, SX.sxStep, SX.stepPure, SX.stepNew, SX.stepStore, SX.guardIx, SX.evOp, SX.opd, SX.opds, SX.look, SX.putS, SX.gobs, SX.AllP, SX.leave, SX.lookT, SX.evBin, SX.evInt, SX.evLoad, SX.shapeUp, SX.evFieldAddr, SX.evNew, SX.evStore, SX.spliceL, SX.SV.cells, SX.evNil, SX.TD.isAgg, SX.NotAgg, cfg60, hT]
      refine ⟨by (unfold SX.Ob; first | trivial | omega | ((try simp only [SX.inK]); (try simp [SX.den, SX.IsU8, SX.AllP, *]); (try omega))), ?_⟩
      intro a5 w5 hr5' _
      have hr5 := hr4.unbase hr5'
      have q5 := hpLt hr5.all
      simp at q5
      have hW5 := hW4.keep hr5'.keeps (by simp [mutB]; exact ⟨hDB, hnX, hnX1⟩)
      have hS5 := hA4'.keep hr5'.keeps (fun z hz h => hk5 z (by simpa [frameAt, mutB] using hz) h)
      refine post_call 81 [.v vW2, .fn (.func 82) [] [.ptr 3 (sX + 1) 0]] hr5 (wanted_none rfl) rfl (callable 81 Try.func81) (delf_ok 82 (callable 82 Try.func82) w5 vW2 c2.W (fun f => decide (f.h = x.k - 2000)) (sX + 1) hW5 (by omega) (fun w' => (SO.cells [.v (.int .i64 (x.k - 2000))] 3).rep w' (sX + 1)) (fun w1 w2 B h1 hkB hB => hkB.same h1 (fun hm => hnX1 (hB _ hm))) hr5.all.2.2.2.1.1 (fun w' f h => gone1_ok w' f (sX + 1) _ h)) ?_
      rintro e6 w6 ⟨v6, B6, rfl, hO6, hB6, hk6⟩
      refine ⟨_, rfl, ?_⟩
      obtain ⟨ad6, cp6, rfl⟩ := hO6.slice
      have z6 : w5.heap.size ≤ w6.heap.size := hk6.size
      have h6 := hr5.retK hk6 (fun z hz => .inr (List.mem_cons.2 (.inr (hB6 z hz).1))) 46 (.v (.slice ad6 (keepL (fun f => decide (f.h = x.k - 2000)) c2.W).length cp6)) rfl _ (HpAll.to hk6 hr5.all (by simp; exact ⟨fun hm => hDB (hB6 _ hm).1, fun hm => hnb (hB6 _ hm).1, fun hm => hnX (hB6 _ hm).1, fun hm => hnX1 (hB6 _ hm).1⟩)) (by simp) rfl
      have hS6 := hS5.keep hk6 (fun z hz h => sP z ((hP5 z).1 h).1 (List.mem_cons.2 (.inr (hB6 z hz).1)))
      refine seg cfg60_ok mixed PanicFree.body 1000 [] [] h6.rebase (by first | trivial | exact HpRep.nil | assumption) (by kernel_rfl) fun s_ hs_ => ?_
      simp (maxSteps := 10000000) [SX.vc, SX.stop, SX.contS, SX.sxStep, SX.stepPure, SX.stepNew, SX.stepStore, SX.guardIx, SX.evOp, SX.opd, SX.look, SX.putS, SX.gobs, SX.AllP, SX.leave, SX.lookT, SX.evBin, SX.evInt, SX.arith, SX.evFieldAddr, SX.evNew, SX.evStore, SX.spliceL, SX.SV.cells, SX.evNil, SX.NotAgg, cfg60]
      refine ⟨by (unfold SX.Ob; first | trivial | omega | ((try simp only [SX.inK]); (try simp [SX.den, SX.IsU8, SX.AllP, *]); (try omega))), ?_⟩
      intro a7 w7 hr7' _
      have hr7 := h6.unbase hr7'
      exact post_rnd (M.length - (k + 1)) (by omega) ⟨k + 1, _, _, rfl, hlt, by rw [hnext, hg]; exact (hS6.keep hr7'.keeps (fun z hz h => hk5 z (by simpa [frameAt, mutB] using hz) h)).mono fun z _ h => ((hP5 z).1 h).1, by rw [hnext, hg]; exact hO6.keep hr7'.keeps (by simp [mutB]; exact ⟨hDB, hnX, hnX1⟩), hr7.re (by simp [envTo, SX.look, den]) (by rw [hnext, hg]; exact hr7.all.take 1) rfl rfl⟩
    · have hg : gone1 c2 x = { c2 with W := keepL (fun f => decide (f.h = x.k - 2000)) c2.W } := by rw [gone1, if_neg hneg, goneS, if_neg hT]
      refine seg cfg60_ok mixed PanicFree.body 1000 [false] [] hr4.rebase (by first | trivial | exact HpRep.nil | assumption) (by kernel_rfl) fun s_ hs_ => ?_
      simp (maxSteps := 10000000) [SX.vc, SX.stop, SX.contS, SX.contB, SX.contD, SX.sxStep, SX.stepPure, SX.stepNew, SX.stepStore, SX.guardIx, SX.evOp, SX.opd, SX.opds, SX.look, SX.putS, SX.gobs, SX.AllP, SX.leave, SX.lookT, SX.evBin, SX.evInt, SX.evLoad, SX.shapeUp, SX.evFieldAddr, SX.evNew, SX.evStore, SX.spliceL, SX.SV.cells, SX.evNil, SX.TD.isAgg, SX.NotAgg, cfg60, hT]
      refine ⟨by (unfold SX.Ob; first | trivial | omega | ((try simp only [SX.inK]); (try simp [SX.den, SX.IsU8, SX.AllP, *]); (try omega))), ?_⟩
      intro a5 w5 hr5' _
      have hr5 := hr4.unbase hr5'
      have q5 := hpLt hr5.all
      simp at q5
      have hW5 := hW4.keep hr5'.keeps (by simp [mutB]; exact ⟨hDB, hnX, hnX1⟩)
      have hS5 := hS4.keep hr5'.keeps (fun z hz h => hk5 z (by simpa [frameAt, mutB] using hz) h)
      refine post_call 81 [.v vW2, .fn (.func 82) [] [.ptr 3 (sX + 1) 0]] hr5 (wanted_none rfl) rfl (callable 81 Try.func81) (delf_ok 82 (callable 82 Try.func82) w5 vW2 c2.W (fun f => decide (f.h = x.k - 2000)) (sX + 1) hW5 (by omega) (fun w' => (SO.cells [.v (.int .i64 (x.k - 2000))] 3).rep w' (sX + 1)) (fun w1 w2 B h1 hkB hB => hkB.same h1 (fun hm => hnX1 (hB _ hm))) hr5.all.2.2.2.1.1 (fun w' f h => gone1_ok w' f (sX + 1) _ h)) ?_
      rintro e6 w6 ⟨v6, B6, rfl, hO6, hB6, hk6⟩
      refine ⟨_, rfl, ?_⟩
      obtain ⟨ad6, cp6, rfl⟩ := hO6.slice
      have z6 : w5.heap.size ≤ w6.heap.size := hk6.size
      have h6 := hr5.retK hk6 (fun z hz => .inr (List.mem_cons.2 (.inr (hB6 z hz).1))) 46 (.v (.slice ad6 (keepL (fun f => decide (f.h = x.k - 2000)) c2.W).length cp6)) rfl _ (HpAll.to hk6 hr5.all (by simp; exact ⟨fun hm => hDB (hB6 _ hm).1, fun hm => hnb (hB6 _ hm).1, fun hm => hnX (hB6 _ hm).1, fun hm => hnX1 (hB6 _ hm).1⟩)) (by simp) rfl
      have hS6 := hS5.keep hk6 (fun z hz h => sP z ((hP5 z).1 h).1 (List.mem_cons.2 (.inr (hB6 z hz).1)))
      refine seg cfg60_ok mixed PanicFree.body 1000 [] [] h6.rebase (by first | trivial | exact HpRep.nil | assumption) (by kernel_rfl) fun s_ hs_ => ?_
      simp (maxSteps := 10000000) [SX.vc, SX.stop, SX.contS, SX.sxStep, SX.stepPure, SX.stepNew, SX.stepStore, SX.guardIx, SX.evOp, SX.opd, SX.look, SX.putS, SX.gobs, SX.AllP, SX.leave, SX.lookT, SX.evBin, SX.evInt, SX.arith, SX.evFieldAddr, SX.evNew, SX.evStore, SX.spliceL, SX.SV.cells, SX.evNil, SX.NotAgg, cfg60]
      refine ⟨by (unfold SX.Ob; first | trivial | omega | ((try simp only [SX.inK]); (try simp [SX.den, SX.IsU8, SX.AllP, *]); (try omega))), ?_⟩
      intro a7 w7 hr7' _
      have hr7 := h6.unbase hr7'
      exact post_rnd (M.length - (k + 1)) (by omega) ⟨k + 1, _, _, rfl, hlt, by rw [hnext, hg]; exact (hS6.keep hr7'.keeps (fun z hz h => hk5 z (by simpa [frameAt, mutB] using hz) h)).mono fun z _ h => ((hP5 z).1 h).1, by rw [hnext, hg]; exact hO6.keep hr7'.keeps (by simp [mutB]; exact ⟨hDB, hnX, hnX1⟩), hr7.re (by simp [envTo, SX.look, den]) (by rw [hnext, hg]; exact hr7.all.take 1) rfl rfl⟩
  · obtain rfl : k = M.length := by omega
    have hc2' : goneC c M = c2 := by rw [← hc2, List.take_length]
    refine seg cfg60_ok mixed PanicFree.body 1000 [false] [] hr2.rebase (by first | trivial | exact HpRep.nil | assumption) (by kernel_rfl) fun s_ hs_ => ?_
    simp (maxSteps := 10000000) [SX.vc, SX.stop, SX.contS, SX.contB, SX.contW, SX.sxStep, SX.stepPure, SX.guardIx, SX.evOp, SX.opd, SX.look, SX.putS, SX.gobs, SX.AllP, SX.leave, SX.evBin, SX.evInt, SX.popTo, cfg60]
    refine ⟨by (unfold SX.Ob; first | trivial | omega | ((try simp only [SX.inK]); (try simp [SX.den, SX.IsU8, SX.AllP, *]); (try omega))), ?_⟩
    intro a3 w3 hr3' _
    have hr3 := hr2.unbase hr3'
    refine post_nil (end0 hr3 rfl ⟨D :: Bw, vS2, vW2, rfl, fun x hx => ?_, hr3.keeps, by rw [hc2']; exact hr3.all.1.1, by rw [hc2']; exact hS2.keep hr3'.keeps (fun z hz h => sP z h (by simp [mutB] at hz; simp [hz])), by rw [hc2']; exact (hW2.keep hr3'.keeps (by simpa [frameAt, mutB] using hDB)).mono fun z _ hz => (hBw z hz).1⟩).2
    rcases List.mem_cons.1 hx with rfl | hx
    · exact .inl rfl
    · exact .inr (hBw x hx).1
end Go.Proofs.C8
namespace Go.Proofs.C8
open Go Go.Proofs Go.SX Go.RowKit Go.Proofs.L6
theorem HpAll.wrB {F : Fr} {w w' : World} {D : Nat} {m : Bool} {o o' : SO} {H : Hp} {B : List Nat} (h : HpAll F w ((D, m, o) :: H)) (hk : KeepsTo w B w') (hn : o'.rep w' D) (hB : ∀ e ∈ H, e.1 ∉ B) : HpAll F w' ((D, m, o') :: H) :=
  ⟨⟨hn, h.1.2.1, h.1.2.2⟩, HpAll.to hk h.2 hB⟩
set_option maxRecDepth 100000 in
set_option maxHeartbeats 64000000 in
theorem tick_ok {QL QS QW : Nat → Prop} (w : World) (D : Nat) (c : Co) (e : Evt) (vL vS vW : Value) (h : Dsk QL QS QW D w c e vL vS vW) (hs : Small c) (hkey : ∀ x ∈ c.T.L, 0 ≤ x.k ∧ x.k ≤ 1000000) :
    Calls Try.prog 27 (denL [.ptr 0 D 0]).toArray w (OpR QL QS QW D w e (tickA c e) (tickC c e)) := by
  have n1 := hs.n1
  have n3 := hs.n3
  have n4 := hs.n4
  obtain ⟨Bw, hBw, hW⟩ := OwS.only h.W
  have hDw : D < w.heap.size := SO.rep_lt h.rep
  have hDB : ¬ D ∈ Bw := fun hm => h.nW (hBw D hm).1
  have sB : ∀ (P : Nat → Prop), ¬ P D → (∀ x, P x → ¬ QW x) → ∀ x ∈ D :: Bw, ¬ P x := fun P h1 h2 x hx hp => by
    rcases List.mem_cons.1 hx with rfl | hx
    · exact h1 hp
    · exact h2 x hp (hBw x hx).1
  have hnb : ∀ x, w.heap.size ≤ x → ¬ x ∈ Bw := fun x hx hm => by
    have := (hBw x hm).2
    omega
  have hE : HpAll ⟨w, w.heap.size, D :: Bw⟩ w [(D, true, .cells (deskC c e vL vS vW) 74)] := ⟨⟨h.rep, fun _ => .inr (by simp), by simp⟩, trivial⟩
  have hS0 := h.S.mono (P' := fun x => QS x ∧ x < w.heap.size) fun x h0 h => ⟨h, h0⟩
  have hlen : (tickO c.T e.now).length ≤ c.T.L.length := by
    unfold tickO
    split
    · exact List.length_filter_le _ _
    · simp
  have hsub : ∀ x ∈ tickO c.T e.now, x ∈ c.T.L := fun x hx => by
    unfold tickO at hx
    split at hx
    · exact (List.mem_filter.1 hx).1
    · cases hx
  refine enter (F := ⟨w, w.heap.size, D :: Bw⟩) Try.func27 rfl [.ptr 0 D 0] _ (by simp [Try.f27]) hE (KeepsTo.refl w _) fun a hr => ?_
  refine seg cfg27_ok mixed PanicFree.body 1000 [] [] hr.rebase (by first | trivial | exact HpRep.nil | assumption) (by kernel_rfl) fun sA hsA => ?_
  simp (maxSteps := 10000000) [SX.vc, SX.stop, SX.contS, SX.contR, SX.contD, SX.sxStep, SX.stepPure, SX.stepNew, SX.guardIx, SX.evOp, SX.opd, SX.look, SX.putS, SX.gobs, SX.AllP, SX.leave, SX.lookT, SX.lookN, SX.evLoad, SX.shapeUp, SX.evFieldAddr, SX.cellsV, SX.evNew, SX.evNil, SX.env0, SX.TD.isAgg, SX.thaw, SX.fork, Go.Value.cells, cfg27, Try.f27, deskC, coC, evC]
  refine ⟨by (unfold SX.Ob; first | trivial | omega | ((try simp only [SX.inK]); (try simp [SX.den, SX.IsU8, SX.AllP, *]); (try omega))), ?_⟩
  intro a1 w1 hr1' ht1
  have hr1 := hr.unbase hr1'
  have q1 := hpLt hr1.all
  simp at q1
  have z1 : w.heap.size ≤ w1.heap.size := hr1.keeps.size
  have hW1 := hW.keep hr1'.keeps (by simpa [frameAt, mutB] using hDB)
  refine post_both ?_ ?_
  · refine post_callD 59 [.ag [.v (.int .i64 c.T.last), .v (.int .i64 c.T.now), .v vL], .v (.int .i64 e.now)] hr1 rfl (by first | exact wanted_none rfl | exact wanted_zero (hr1.env.same rfl rfl rfl rfl) rfl (by simp) | exact wanted_zero (hr1.env.same rfl rfl rfl rfl) rfl (by simp [*])) rfl (callable 59 Try.func59) (Tick_ok w1 vL c.T e.now (h.L.rd.keep hr1.keeps (sB _ h.nL h.LW)) (by omega)) ?_
    rintro e2 w2 ⟨v2, u2, rfl, hO2, hU2, hb2⟩
    have ht2 := HpRep_below ht1 hb2
    refine ⟨_, rfl, ht2, ?_⟩
    have hr2 := hr1.ret hb2 17 (.tu [.ag (tabC (tickT c.T e.now) v2), .v u2, .v (.int .i64 (tickE c.T e.now))]) rfl _ (hr1.all.below hb2) (by simp) rfl
    obtain ⟨ad2, cp2, rfl⟩ := hO2.slice
    have q2 := hpLt hr2.all
    simp at q2
    have z2 : w1.heap.size ≤ w2.heap.size := hb2.size
    have hP2 := hO2.mono (P' := fun x => w1.heap.size ≤ x ∧ x < w2.heap.size) fun x h1 h2 => ⟨h2, h1⟩
    have hV2 := hU2.mono (P' := fun x => w1.heap.size ≤ x ∧ x < w2.heap.size) fun x h1 h2 => ⟨h2, h1⟩
    have hWn := hW1.below hb2
    by_cases hE0 : (tickE c.T e.now) = 0
    · refine seg cfg27_ok mixed PanicFree.body 1000 [false] [] hr2.rebase (by first | trivial | exact HpRep.nil | assumption) (by kernel_rfl) fun sX hsX => ?_
      simp (maxSteps := 10000000) [SX.vc, SX.stop, SX.contS, SX.contB, SX.contD, SX.sxStep, SX.stepPure, SX.stepNew, SX.stepStore, SX.stepKeep, SX.guardIx, SX.evOp, SX.opd, SX.look, SX.putS, SX.gobs, SX.AllP, SX.leave, SX.lookT, SX.evBin, SX.evInt, SX.evLoad, SX.shapeUp, SX.evFieldAddr, SX.cellsV, SX.evNew, SX.evStore, SX.spliceL, SX.SV.cells, SX.evNil, SX.TD.isAgg, SX.tails, SX.NotAgg, SX.frz, SX.Froz, SX.frzStep, Go.Value.cells, cfg27, tabC, hE0]
      refine ⟨by (unfold SX.Ob; first | trivial | omega | ((try simp only [SX.inK]); (try simp [SX.den, SX.IsU8, SX.AllP, *]); (try omega))), ?_⟩
      intro a20 w20 hr20' _
      have hr20 := hr2.unbase hr20'
      have q20 := hpLt hr20.all
      simp at q20
      have z20 : w2.heap.size ≤ w20.heap.size := hr20'.keeps.size
      have hO20 := hP2.keep hr20'.keeps (by simp [mutB]; omega)
      have hV20 := hV2.keep hr20'.keeps (by simp [mutB]; omega)
      have hW20 := hWn.keep hr20'.keeps (by simp only [mutB]; simp; refine ⟨hDB, ?_⟩; repeat (first | exact hnb _ (by omega) | refine ⟨hnb _ (by omega), ?_⟩))
      refine post_call 60 [.ptr 0 D 0, .v u2] hr20 (wanted_none rfl) rfl (callable 60 Try.func60) (gone_ok w20 D { c with T := (tickT c.T e.now) } e _ vS vW _ (tickO c.T e.now) (by simpa [deskC, coC, evC] using hr20.all.1.1) (hS0.keep hr20.keeps (sB _ (fun hx => h.nS hx.1) (fun x hx => h.SW x hx.1))) hW20 hV20 (fun hx => h.nS hx.1) hDB (by omega) (fun x hx hm => h.SW x hx.1 (hBw x hm).1) (fun x hx => hnb x (by omega)) (by omega) n3 n4 (fun x hx => hkey x (hsub x hx))) ?_
      rintro e21 w21 ⟨B, vS', vW', rfl, hB, hk21, hD21, hS21, hW21⟩
      refine ⟨_, rfl, ?_⟩
      have hBM : ∀ z ∈ B, z ∈ D :: Bw := fun z hz => List.mem_cons.2 (hB z hz)
      have hBn : ∀ z, w.heap.size ≤ z → ¬ z ∈ B := fun z h1 h2 => by
          rcases hB z h2 with rfl | h3
          · omega
          · exact hnb z h1 h3
      have h21 := hr20.retK hk21 (fun z hz => .inr (hBM z hz)) 32 (.tu []) rfl _ (HpAll.wrB hr20.all hk21 hD21 (by simp; repeat (first | exact hBn _ (by omega) | refine ⟨hBn _ (by omega), ?_⟩))) (by simp) rfl
      have hO21 := hO20.keep hk21 (fun z hz hp => hBn z (by omega) hz)
      refine seg cfg27_ok mixed PanicFree.body 1000 [] [] h21.rebase (by first | trivial | exact HpRep.nil | assumption) (by kernel_rfl) fun s_ hs_ => ?_
      simp (maxSteps := 10000000) [SX.vc, SX.stop, SX.contS, SX.sxStep, SX.stepPure, SX.stepNew, SX.stepStore, SX.guardIx, SX.evOp, SX.opd, SX.opds, SX.look, SX.putS, SX.gobs, SX.AllP, SX.leave, SX.lookT, SX.evFill, SX.evBuild, SX.szs, SX.cellsV, SX.evNew, SX.evStore, SX.spliceL, SX.SV.cells, SX.NotAgg, Go.Value.cells, cfg27]
      refine ⟨by (unfold SX.Ob; first | trivial | omega | ((try simp only [SX.inK]); (try simp [SX.den, SX.IsU8, SX.AllP, *]); (try omega))), ?_⟩
      intro a22 w22 hr22' _
      have hr22 := h21.unbase hr22'
      have hO22 := hO21.keep hr22'.keeps (by simp [mutB]; omega)
      have hW22 := hW21.keep hr22'.keeps (by simp only [mutB]; simp; refine ⟨hDB, ?_⟩; repeat (first | exact hnb _ (by omega) | refine ⟨hnb _ (by omega), ?_⟩))
      have z21 : w20.heap.size ≤ w21.heap.size := hk21.size
      have hS22 := hS21.keep hr22'.keeps (by simp only [mutB]; simp; refine ⟨⟨fun hx => absurd hx h.nS, by omega⟩, ?_⟩; repeat (first | exact ⟨fun _ => by omega, by omega⟩ | refine ⟨⟨fun _ => by omega, by omega⟩, ?_⟩))
      have hTT : (tickC c e).T = tickT c.T e.now := (goneC_len _).2.2.1
      exact post_retn (endC1 hr22 rfl rfl rfl tok43 rfl ⟨.slice none 0 0, D :: Bw, by rw [tickA, hE0]; rfl, OwS.nil.rd, fun x hx => (by rcases List.mem_cons.1 hx with rfl | hx; exact .inl rfl; exact .inr (.inr (hBw x hx).1)), hr22.keeps, fun _ => ⟨_, vS', vW', hr22.all.1.1, by rw [hTT]; exact hO22.mono fun x _ hx => .inr (by omega), hS22.mono fun x _ hx => hx.elim (fun h1 => .inl h1.1) (fun h1 => .inr (by omega)), hW22.rd.mono fun x _ hx => .inl (hBw x hx).1⟩⟩).1
    · refine seg cfg27_ok mixed PanicFree.body 1000 [true] [] hr2.rebase (by first | trivial | exact HpRep.nil | assumption) (by kernel_rfl) fun sX hsX => ?_
      simp (maxSteps := 10000000) [SX.vc, SX.stop, SX.contS, SX.contB, SX.contD, SX.sxStep, SX.stepPure, SX.stepNew, SX.stepStore, SX.stepKeep, SX.guardIx, SX.evOp, SX.opd, SX.look, SX.putS, SX.gobs, SX.AllP, SX.leave, SX.lookT, SX.evBin, SX.evInt, SX.evLoad, SX.shapeUp, SX.evFieldAddr, SX.cellsV, SX.evNew, SX.evStore, SX.spliceL, SX.SV.cells, SX.evNil, SX.TD.isAgg, SX.tails, SX.NotAgg, SX.frz, SX.Froz, SX.frzStep, Go.Value.cells, cfg27, tabC, hE0]
      refine ⟨by (unfold SX.Ob; first | trivial | omega | ((try simp only [SX.inK]); (try simp [SX.den, SX.IsU8, SX.AllP, *]); (try omega))), ?_⟩
      intro a20 w20 hr20' _
      have hr20 := hr2.unbase hr20'
      refine post_call 30 [.v (.int .i64 (tickE c.T e.now))] hr20 (by first | exact wanted_none rfl | exact wanted_zero (hr20.env.same rfl rfl rfl rfl) rfl (by simp) | exact wanted_zero (hr20.env.same rfl rfl rfl rfl) rfl (by simp [*])) rfl (callable 30 Try.func30) (fails_ok w20 _) ?_
      rintro e21 w21 ⟨rfl, hb21⟩
      refine ⟨_, rfl, ?_⟩
      have h21 := hr20.ret hb21 24 (.ag (ansC (noA (tickE c.T e.now)) (.slice none 0 0))) rfl _ (hr20.all.below hb21) (by simp) rfl
      refine seg cfg27_ok mixed PanicFree.body 1000 [] [] h21 (by first | trivial | exact HpRep.nil | assumption) (by kernel_rfl) fun s_ hs_ => ?_
      simp (maxSteps := 10000000) [SX.vc, SX.stop, SX.contS, SX.sxStep, SX.stepPure, SX.stepNew, SX.stepStore, SX.guardIx, SX.evOp, SX.opd, SX.look, SX.putS, SX.AllP, SX.leave, SX.lookT, SX.evNew, SX.evStore, SX.spliceL, SX.SV.cells, SX.NotAgg, cfg27, ansC, noA]
      refine ⟨by (unfold SX.Ob; first | trivial | omega | ((try simp only [SX.inK]); (try simp [SX.den, SX.IsU8, SX.AllP, *]); (try omega))), ?_⟩
      intro a22 w22 hr22 _
      exact post_retn (endC1 hr22 rfl rfl rfl tok43 rfl ⟨.slice none 0 0, D :: Bw, rfl, OwS.nil.rd, fun x hx => (by rcases List.mem_cons.1 hx with rfl | hx; exact .inl rfl; exact .inr (.inr (hBw x hx).1)), hr22.keeps, fun h' => absurd h' hE0⟩).1
  · refine seg cfg27_ok mixed PanicFree.body 1000 [] [] hr1.rebase (by first | trivial | exact HpRep.nil | assumption) (by kernel_rfl) fun sT hsT => ?_
    simp (maxSteps := 10000000) [SX.vc, SX.stop, SX.contS, SX.contD, SX.stepPure, SX.stepNew, SX.stepKeep, SX.guardIx, SX.evOp, SX.putS, SX.AllP, SX.lookT, SX.cellsV, SX.evNew, Go.Value.cells, cfg27]
    refine ⟨by (unfold SX.Ob; first | trivial | omega | ((try simp only [SX.inK]); (try simp [SX.den, SX.IsU8, SX.AllP, *]); (try omega))), ?_⟩
    intro a3 w3 hr3' ht3
    have hr3 := hr1.unbase hr3'
    have q3 := hpLt hr3.all
    simp at q3
    have z3 : w1.heap.size ≤ w3.heap.size := by omega
    have hW3 := hW1.keep hr3'.keeps (by simp [mutB]; exact ⟨hDB, hnb _ (by omega)⟩)
    refine post_callD 59 [.ag [.v (.int .i64 c.T.last), .v (.int .i64 c.T.now), .v vL], .v (.int .i64 e.now)] hr3 rfl (by first | exact wanted_none rfl | exact wanted_zero (hr3.env.same rfl rfl rfl rfl) rfl (by simp) | exact wanted_zero (hr3.env.same rfl rfl rfl rfl) rfl (by simp [*])) rfl (callable 59 Try.func59) (Tick_ok w3 vL c.T e.now (h.L.rd.keep hr3.keeps (sB _ h.nL h.LW)) (by omega)) ?_
    rintro e4 w4 ⟨v4, u4, rfl, hO4, hU4, hb4⟩
    have ht4 := HpRep_below ht3 hb4
    refine ⟨_, rfl, ht4, ?_⟩
    have hr4 := hr3.ret hb4 17 (.tu [.ag (tabC (tickT c.T e.now) v4), .v u4, .v (.int .i64 (tickE c.T e.now))]) rfl _ (hr3.all.below hb4) (by simp) rfl
    obtain ⟨ad4, cp4, rfl⟩ := hO4.slice
    have q4 := hpLt hr4.all
    simp at q4
    have z4 : w3.heap.size ≤ w4.heap.size := hb4.size
    have hP4 := hO4.mono (P' := fun x => w3.heap.size ≤ x ∧ x < w4.heap.size) fun x h1 h2 => ⟨h2, h1⟩
    have hV4 := hU4.mono (P' := fun x => w3.heap.size ≤ x ∧ x < w4.heap.size) fun x h1 h2 => ⟨h2, h1⟩
    have hWn := hW3.below hb4
    by_cases hE0 : (tickE c.T e.now) = 0
    · refine seg cfg27_ok mixed PanicFree.body 1000 [false] [] hr4.rebase (by first | trivial | exact HpRep.nil | assumption) (by kernel_rfl) fun sX hsX => ?_
      simp (maxSteps := 10000000) [SX.vc, SX.stop, SX.contS, SX.contB, SX.contD, SX.sxStep, SX.stepPure, SX.stepNew, SX.stepStore, SX.stepKeep, SX.guardIx, SX.evOp, SX.opd, SX.look, SX.putS, SX.gobs, SX.AllP, SX.leave, SX.lookT, SX.evBin, SX.evInt, SX.evLoad, SX.shapeUp, SX.evFieldAddr, SX.cellsV, SX.evNew, SX.evStore, SX.spliceL, SX.SV.cells, SX.evNil, SX.TD.isAgg, SX.tails, SX.NotAgg, SX.frz, SX.Froz, SX.frzStep, Go.Value.cells, cfg27, tabC, hE0]
      refine ⟨by (unfold SX.Ob; first | trivial | omega | ((try simp only [SX.inK]); (try simp [SX.den, SX.IsU8, SX.AllP, *]); (try omega))), ?_⟩
      intro a20 w20 hr20' _
      have hr20 := hr4.unbase hr20'
      have q20 := hpLt hr20.all
      simp at q20
      have z20 : w4.heap.size ≤ w20.heap.size := hr20'.keeps.size
      have hO20 := hP4.keep hr20'.keeps (by simp [mutB]; omega)
      have hV20 := hV4.keep hr20'.keeps (by simp [mutB]; omega)
      have hW20 := hWn.keep hr20'.keeps (by simp only [mutB]; simp; refine ⟨hDB, ?_⟩; repeat (first | exact hnb _ (by omega) | refine ⟨hnb _ (by omega), ?_⟩))
      refine post_call 60 [.ptr 0 D 0, .v u4] hr20 (wanted_none rfl) rfl (callable 60 Try.func60) (gone_ok w20 D { c with T := (tickT c.T e.now) } e _ vS vW _ (tickO c.T e.now) (by simpa [deskC, coC, evC] using hr20.all.1.1) (hS0.keep hr20.keeps (sB _ (fun hx => h.nS hx.1) (fun x hx => h.SW x hx.1))) hW20 hV20 (fun hx => h.nS hx.1) hDB (by omega) (fun x hx hm => h.SW x hx.1 (hBw x hm).1) (fun x hx => hnb x (by omega)) (by omega) n3 n4 (fun x hx => hkey x (hsub x hx))) ?_
      rintro e21 w21 ⟨B, vS', vW', rfl, hB, hk21, hD21, hS21, hW21⟩
      refine ⟨_, rfl, ?_⟩
      have hBM : ∀ z ∈ B, z ∈ D :: Bw := fun z hz => List.mem_cons.2 (hB z hz)
      have hBn : ∀ z, w.heap.size ≤ z → ¬ z ∈ B := fun z h1 h2 => by
          rcases hB z h2 with rfl | h3
          · omega
          · exact hnb z h1 h3
      have h21 := hr20.retK hk21 (fun z hz => .inr (hBM z hz)) 32 (.tu []) rfl _ (HpAll.wrB hr20.all hk21 hD21 (by simp; repeat (first | exact hBn _ (by omega) | refine ⟨hBn _ (by omega), ?_⟩))) (by simp) rfl
      have hO21 := hO20.keep hk21 (fun z hz hp => hBn z (by omega) hz)
      refine seg cfg27_ok mixed PanicFree.body 1000 [] [] h21.rebase (by first | trivial | exact HpRep.nil | assumption) (by kernel_rfl) fun s_ hs_ => ?_
      simp (maxSteps := 10000000) [SX.vc, SX.stop, SX.contS, SX.sxStep, SX.stepPure, SX.stepNew, SX.stepStore, SX.guardIx, SX.evOp, SX.opd, SX.opds, SX.look, SX.putS, SX.gobs, SX.AllP, SX.leave, SX.lookT, SX.evFill, SX.evBuild, SX.szs, SX.cellsV, SX.evNew, SX.evStore, SX.spliceL, SX.SV.cells, SX.NotAgg, Go.Value.cells, cfg27]
      refine ⟨by (unfold SX.Ob; first | trivial | omega | ((try simp only [SX.inK]); (try simp [SX.den, SX.IsU8, SX.AllP, *]); (try omega))), ?_⟩
      intro a22 w22 hr22' _
      have hr22 := h21.unbase hr22'
      have hO22 := hO21.keep hr22'.keeps (by simp [mutB]; omega)
      have hW22 := hW21.keep hr22'.keeps (by simp only [mutB]; simp; refine ⟨hDB, ?_⟩; repeat (first | exact hnb _ (by omega) | refine ⟨hnb _ (by omega), ?_⟩))
      have z21 : w20.heap.size ≤ w21.heap.size := hk21.size
      have hS22 := hS21.keep hr22'.keeps (by simp only [mutB]; simp; refine ⟨⟨fun hx => absurd hx h.nS, by omega⟩, ?_⟩; repeat (first | exact ⟨fun _ => by omega, by omega⟩ | refine ⟨⟨fun _ => by omega, by omega⟩, ?_⟩))
      have hTT : (tickC c e).T = tickT c.T e.now := (goneC_len _).2.2.1
      exact post_retn (endC1 hr22 rfl rfl rfl tok43 rfl ⟨.slice none 0 0, D :: Bw, by rw [tickA, hE0]; rfl, OwS.nil.rd, fun x hx => (by rcases List.mem_cons.1 hx with rfl | hx; exact .inl rfl; exact .inr (.inr (hBw x hx).1)), hr22.keeps, fun _ => ⟨_, vS', vW', hr22.all.1.1, by rw [hTT]; exact hO22.mono fun x _ hx => .inr (by omega), hS22.mono fun x _ hx => hx.elim (fun h1 => .inl h1.1) (fun h1 => .inr (by omega)), hW22.rd.mono fun x _ hx => .inl (hBw x hx).1⟩⟩).1
    · refine seg cfg27_ok mixed PanicFree.body 1000 [true] [] hr4.rebase (by first | trivial | exact HpRep.nil | assumption) (by kernel_rfl) fun sX hsX => ?_
      simp (maxSteps := 10000000) [SX.vc, SX.stop, SX.contS, SX.contB, SX.contD, SX.sxStep, SX.stepPure, SX.stepNew, SX.stepStore, SX.stepKeep, SX.guardIx, SX.evOp, SX.opd, SX.look, SX.putS, SX.gobs, SX.AllP, SX.leave, SX.lookT, SX.evBin, SX.evInt, SX.evLoad, SX.shapeUp, SX.evFieldAddr, SX.cellsV, SX.evNew, SX.evStore, SX.spliceL, SX.SV.cells, SX.evNil, SX.TD.isAgg, SX.tails, SX.NotAgg, SX.frz, SX.Froz, SX.frzStep, Go.Value.cells, cfg27, tabC, hE0]
      refine ⟨by (unfold SX.Ob; first | trivial | omega | ((try simp only [SX.inK]); (try simp [SX.den, SX.IsU8, SX.AllP, *]); (try omega))), ?_⟩
      intro a20 w20 hr20' _
      have hr20 := hr4.unbase hr20'
      refine post_call 30 [.v (.int .i64 (tickE c.T e.now))] hr20 (by first | exact wanted_none rfl | exact wanted_zero (hr20.env.same rfl rfl rfl rfl) rfl (by simp) | exact wanted_zero (hr20.env.same rfl rfl rfl rfl) rfl (by simp [*])) rfl (callable 30 Try.func30) (fails_ok w20 _) ?_
      rintro e21 w21 ⟨rfl, hb21⟩
      refine ⟨_, rfl, ?_⟩
      have h21 := hr20.ret hb21 24 (.ag (ansC (noA (tickE c.T e.now)) (.slice none 0 0))) rfl _ (hr20.all.below hb21) (by simp) rfl
      refine seg cfg27_ok mixed PanicFree.body 1000 [] [] h21 (by first | trivial | exact HpRep.nil | assumption) (by kernel_rfl) fun s_ hs_ => ?_
      simp (maxSteps := 10000000) [SX.vc, SX.stop, SX.contS, SX.sxStep, SX.stepPure, SX.stepNew, SX.stepStore, SX.guardIx, SX.evOp, SX.opd, SX.look, SX.putS, SX.AllP, SX.leave, SX.lookT, SX.evNew, SX.evStore, SX.spliceL, SX.SV.cells, SX.NotAgg, cfg27, ansC, noA]
      refine ⟨by (unfold SX.Ob; first | trivial | omega | ((try simp only [SX.inK]); (try simp [SX.den, SX.IsU8, SX.AllP, *]); (try omega))), ?_⟩
      intro a22 w22 hr22 _
      exact post_retn (endC1 hr22 rfl rfl rfl tok43 rfl ⟨.slice none 0 0, D :: Bw, rfl, OwS.nil.rd, fun x hx => (by rcases List.mem_cons.1 hx with rfl | hx; exact .inl rfl; exact .inr (.inr (hBw x hx).1)), hr22.keeps, fun h' => absurd h' hE0⟩).1
end Go.Proofs.C8
