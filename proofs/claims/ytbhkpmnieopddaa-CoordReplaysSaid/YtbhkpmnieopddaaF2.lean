/- F2: texts of this proof, joined. -/
import Derived.Test.YtbhkpmnieopddaaF1
set_option linter.unusedVariables false
set_option linter.unusedSimpArgs false
set_option linter.unusedSectionVars false
namespace Go.Proofs.S7
open Go Go.Proofs Go.SX Go.RowKit
theorem chkS_free {o : Int} : ∀ {L : List Spn} {last : Int}, ChkS last L → ChkS last (L.map (freeS o)) ∧ endS last (L.map (freeS o)) = endS last L
  | [], _, _ => ⟨trivial, rfl⟩
  | s :: r, last, h => by
    obtain ⟨i1, i2⟩ := chkS_free (o := o) h.2.2.2
    have e1 : (freeS o s).fr = s.fr := by unfold freeS; split <;> rfl
    have e2 : (freeS o s).to = s.to := by unfold freeS; split <;> rfl
    refine ⟨⟨by rw [e1]; exact h.1, by rw [e1, e2]; exact h.2.1, ?_, by rw [e2]; exact i1⟩, by simp only [List.map_cons, endS, e2]; exact i2⟩
    unfold freeS
    split
    · exact .inl ⟨rfl, rfl⟩
    · exact h.2.2.1
theorem chkP_free {o : Int} {L : List Spn} (h : ChkP L) : ChkP (L.map (freeS o)) := by
  obtain ⟨g1, g2⟩ := chkS_free (o := o) h.1
  exact ⟨g1, by rw [g2]; exact h.2.1, by rw [g2]; exact h.2.2⟩
theorem hasS_free {o : Int} {L : List Spn} {b : Int} {u : Int × Int} : HasS (L.map (freeS o)) b u ↔ ∃ u', HasS L b u' ∧ u = if u'.1 = o then (-1, 0) else u' := by
  have e1 : ∀ s : Spn, (freeS o s).fr = s.fr := fun s => by unfold freeS; split <;> rfl
  have e2 : ∀ s : Spn, (freeS o s).to = s.to := fun s => by unfold freeS; split <;> rfl
  have e3 : ∀ s : Spn, ((freeS o s).ow, (freeS o s).ep) = if s.ow = o then (-1, 0) else (s.ow, s.ep) := fun s => by unfold freeS; split <;> rfl
  constructor
  · rintro ⟨x, hx, hi, hu⟩
    obtain ⟨s, hs, rfl⟩ := List.mem_map.1 hx
    refine ⟨_, ⟨s, hs, ?_, rfl⟩, ?_⟩
    · unfold InS at hi ⊢
      rwa [e1, e2] at hi
    · rw [← hu, e3]
  · rintro ⟨u', ⟨s, hs, hi, rfl⟩, rfl⟩
    refine ⟨_, List.mem_map.2 ⟨s, hs, rfl⟩, ?_, ?_⟩
    · unfold InS at hi ⊢
      rwa [e1, e2]
    · rw [e3]
theorem take_facts {L : List Spn} {o : Int} (h : TakeOK L o) : ChkP (takeL L o) ∧ endS 0 (takeL L o) = endS 0 L ∧ ∀ b u, HasS (takeL L o) b u ↔ ∃ u', HasS L b u' ∧ u = if u'.1 = o then (-1, 0) else u' := by
  have e : takeL L o = joinS (L.map (freeS o)) := if_pos h
  rw [e]
  obtain ⟨j1, j2, j3⟩ := join_facts (chkP_free (o := o) h.1)
  exact ⟨j1, by rw [j2, (chkS_free (o := o) h.1.1).2], fun b u => by rw [j3, hasS_free]⟩
end Go.Proofs.S7
namespace Go.Proofs.C8
open Go Go.Proofs Go.SX Go.RowKit Go.Proofs.L6
structure Inv (n : Nat) (c : Co) : Prop where
  T : ChkT c.T
  S : S7.ChkP c.S
  e60 : S7.endS 0 c.S = 60
  nL : c.T.L.length ≤ n
  nS : c.S.length ≤ 1 + 2 * n
  nW : c.W.length ≤ n
  la : c.T.last ≤ n
  nw : c.T.now ≤ 1152921504606846976
  t1 : 1 ≤ c.ttl
  t2 : c.ttl ≤ 50
  z1 : 1 ≤ c.zn
  z8 : c.zn ≤ 8
  ks : ∀ x ∈ c.T.L, x.k < c.zn ∨ x.k = 1000 ∨ (2000 ≤ x.k ∧ x.k < 2008 ∧ x.h = x.k - 2000)
  ws : ∀ f ∈ c.W, HasK c.T.L (2000 + f.h) ∧ 0 ≤ f.h ∧ f.h < 8 ∧ 1 ≤ f.e ∧ f.e ≤ c.T.last ∧ 0 ≤ f.z ∧ f.z < c.zn ∧ ∀ x ∈ c.T.L, x.k ≠ f.z ∧ x.e ≠ f.e
  wp : c.W.Pairwise fun f g => f.z ≠ g.z ∧ f.e ≠ g.e
  os : ∀ b t, S7.HasS c.S b t → t.1 = -1 ∨ (HasK c.T.L (2000 + t.1) ∧ t.2 ≤ c.T.last)
theorem Inv.up {n : Nat} {c : Co} (h : Inv n c) : Inv (n + 1) c :=
  { h with nL := Nat.le_succ_of_le h.nL, nS := by have := h.nS; omega, nW := Nat.le_succ_of_le h.nW, la := by have := h.la; omega }
theorem Inv.bnd {n : Nat} {c : Co} (h : Inv n c) : ∀ x ∈ c.T.L, Bnd c.T.last c.T.now (-1) x := ((chkT_iff _).1 h.T).1
theorem Inv.who {n : Nat} {c : Co} (h : Inv n c) (k : Int) : whoH c k ≠ -1 ↔ HasK c.T.L k := by
  unfold whoH holdX
  by_cases hk : HasK c.T.L k
  · have ht : HasT c.T k := ⟨h.T, hk⟩
    rw [if_pos ht, if_pos ht]
    have := (h.bnd _ (hasK_get hk).1).2.1
    exact ⟨fun _ => hk, fun _ => by omega⟩
  · rw [if_neg fun g => hk g.2]
    exact ⟨fun g => absurd rfl g, fun g => absurd g hk⟩
theorem Inv.mem {n : Nat} {c : Co} (h : Inv n c) (x : Int) : memP c x ↔ 0 ≤ x ∧ x < 8 ∧ HasK c.T.L (2000 + x) := by
  unfold memP
  rw [h.who]
theorem inv_0 {z t : Int} (h1 : 1 ≤ z) (h2 : z ≤ 8) (h3 : 1 ≤ t) (h4 : t ≤ 50) : Inv 0 (co0 z 60 t) where
  T := show ChkT (⟨0, 0, []⟩ : Tab) by decide
  S := show S7.ChkP [⟨0, 60, -1, 0⟩] from ⟨⟨rfl, by decide, .inl ⟨rfl, rfl⟩, trivial⟩, by decide, by decide⟩
  e60 := rfl
  nL := Nat.le_refl _
  nS := Nat.le_refl _
  nW := Nat.le_refl _
  la := Int.le_refl _
  nw := show (0 : Int) ≤ 1152921504606846976 by decide
  t1 := h3
  t2 := h4
  z1 := h1
  z8 := h2
  ks := fun x hx => by cases hx
  ws := fun f hf => by cases hf
  wp := .nil
  os := fun b t h => by
    obtain ⟨s, hs, _, e⟩ := h
    obtain rfl : s = ⟨0, 60, -1, 0⟩ := by simpa [co0] using hs
    exact .inl (by rw [← e])
theorem insK_len (x : Lse) (L : List Lse) (h : ¬ HasK L x.k) : (insK x L).length = L.length + 1 := by
  have key : ∀ M : List Lse, (∀ y ∈ M, y.k ≠ x.k) → (M.filter fun y => decide (y.k < x.k)).length + (M.filter fun y => decide (x.k < y.k)).length = M.length := fun M => by
    induction M with
    | nil => intro _; rfl
    | cons a r ih =>
      intro hn
      have i := ih fun y hy => hn y (List.mem_cons_of_mem _ hy)
      have ha := hn a List.mem_cons_self
      by_cases h1 : a.k < x.k
      · rw [List.filter_cons_of_pos (by simpa using h1), List.filter_cons_of_neg (by simp; omega)]
        simp only [List.length_cons]
        omega
      · rw [List.filter_cons_of_neg (by simpa using h1), List.filter_cons_of_pos (by simp; omega)]
        simp only [List.length_cons]
        omega
  have := key L fun y hy hk => h ⟨y, hy, hk⟩
  unfold insK
  simp only [List.length_append, List.length_cons]
  omega
theorem has_insK {x : Lse} {L : List Lse} {k : Int} (h : HasK L k) : HasK (insK x L) k := by
  obtain ⟨y, hy, hk⟩ := h
  by_cases he : y.k = x.k
  · exact ⟨x, mem_insK.2 (.inl rfl), by rw [← he]; exact hk⟩
  · exact ⟨y, mem_insK.2 (.inr ⟨hy, he⟩), hk⟩
theorem grantE_0 {t : Tab} {k h ttl : Int} (he : grantE t k h ttl = 0) : GrantOK t k h ttl ∧ ¬ HasK t.L k ∧ grantT t k h ttl = ⟨t.last + 1, t.now, insK (newX t k h ttl) t.L⟩ ∧ grantX t k h ttl = newX t k h ttl := by
  have h1 : grantT t k h ttl = ⟨t.last + 1, t.now, insK (newX t k h ttl) t.L⟩ := if_pos he
  have h2 : grantX t k h ttl = newX t k h ttl := if_pos he
  unfold grantE at he
  split at he
  · rename_i hg
    split at he
    · simp at he
    · exact ⟨hg, ‹_›, h1, h2⟩
  · simp at he
theorem inv_grant {n : Nat} {c : Co} (I : Inv n c) {k h : Int} (hk : k = 1000 ∨ (2000 ≤ k ∧ k < 2008 ∧ h = k - 2000)) (he : grantE c.T k h c.ttl = 0) : Inv (n + 1) (grantC c k h) := by
  obtain ⟨hg, hn, hT, _⟩ := grantE_0 he
  have eT : (grantC c k h).T = ⟨c.T.last + 1, c.T.now, insK (newX c.T k h c.ttl) c.T.L⟩ := hT
  have hx : (newX c.T k h c.ttl).k = k := rfl
  have z8 := I.z8
  refine ⟨by rw [eT]; exact chkT_grant hg, I.S, I.e60, ?_, by have := I.nS; show c.S.length ≤ _; omega, Nat.le_succ_of_le I.nW, ?_, ?_, I.t1, I.t2, I.z1, I.z8, fun x h1 => ?_, fun f hf => ?_, I.wp, fun b t ht => ?_⟩
  · rw [eT]
    show (insK _ _).length ≤ _
    rw [insK_len _ _ hn]
    exact Nat.succ_le_succ I.nL
  · rw [eT]
    show c.T.last + 1 ≤ ((n + 1 : Nat) : Int)
    have := I.la
    omega
  · rw [eT]; exact I.nw
  · rw [eT] at h1
    rcases mem_insK.1 h1 with rfl | ⟨h1, _⟩
    · exact .inr (by show (newX c.T k h c.ttl).k = 1000 ∨ _; rw [hx]; exact hk)
    · exact I.ks x h1
  · obtain ⟨a1, a2, a3, a4, a5, a6, a7, a8⟩ := I.ws f hf
    rw [eT]
    refine ⟨has_insK a1, a2, a3, a4, by show f.e ≤ c.T.last + 1; omega, a6, a7, fun x h1 => ?_⟩
    rcases mem_insK.1 h1 with rfl | ⟨h1, _⟩
    · refine ⟨by rw [hx]; show k ≠ f.z; have : f.z < c.zn := a7; omega, by show c.T.last + 1 ≠ f.e; omega⟩
    · exact a8 x h1
  · rcases I.os b t ht with h1 | ⟨h1, h2⟩
    · exact .inl h1
    · rw [eT]
      exact .inr ⟨has_insK h1, by show t.2 ≤ c.T.last + 1; omega⟩
theorem zoneA_0 {c : Co} {e : Evt} (he : (zoneA c e).er = 0) : 0 ≤ e.z ∧ e.z < c.zn ∧ memP c e.h ∧ whoH c e.z = -1 ∧ (∀ f ∈ c.W, f.z ≠ e.z) ∧ zoneA c e = ⟨0, c.T.last + 1, [⟨e.z, e.h, c.T.last + 1⟩]⟩ := by
  unfold zoneA at he ⊢
  by_cases h1 : e.z < 0 ∨ c.zn ≤ e.z
  · rw [if_pos h1] at he; exact absurd he (by decide)
  rw [if_neg h1] at he ⊢
  by_cases h2 : memP c e.h
  rotate_left
  · rw [if_pos h2] at he; exact absurd he (by decide)
  rw [if_neg (not_not_intro h2)] at he ⊢
  by_cases h3 : whoH c e.z ≠ -1 ∨ c.W.any (fun f => decide (f.z = e.z)) = true
  · rw [if_pos h3] at he; exact absurd he (by decide)
  rw [if_neg h3]
  refine ⟨by omega, by omega, h2, Classical.not_not.1 fun h => h3 (.inl h), fun f hf hz => h3 (.inr ?_), rfl⟩
  rw [List.any_eq_true]
  exact ⟨f, hf, by simpa using hz⟩
theorem inv_zone {n : Nat} {c : Co} (I : Inv n c) {e : Evt} (he : (zoneA c e).er = 0) : Inv (n + 1) (zoneC c e) := by
  obtain ⟨h1, h2, h3, h4, h5, _⟩ := zoneA_0 he
  obtain ⟨m1, m2, m3⟩ := (I.mem _).1 h3
  have h0 : 0 ≤ c.T.last := I.T.2.1
  have hno : ¬ HasK c.T.L e.z := fun h => (I.who _).2 h h4
  refine ⟨chkT_more I.T, I.S, I.e60, Nat.le_succ_of_le I.nL, by have := I.nS; show c.S.length ≤ _; omega, ?_, ?_, I.nw, I.t1, I.t2, I.z1, I.z8, I.ks, fun f hf => ?_, ?_, fun b t ht => ?_⟩
  · show (c.W ++ [_]).length ≤ _
    rw [List.length_append]
    exact Nat.succ_le_succ I.nW
  · show c.T.last + 1 ≤ ((n + 1 : Nat) : Int)
    have := I.la
    omega
  · rcases List.mem_append.1 hf with hf | hf
    · obtain ⟨a1, a2, a3, a4, a5, a6, a7, a8⟩ := I.ws f hf
      exact ⟨a1, a2, a3, a4, by show f.e ≤ c.T.last + 1; omega, a6, a7, a8⟩
    · obtain rfl : f = ⟨e.z, e.h, c.T.last + 1⟩ := by simpa using hf
      exact ⟨m3, m1, m2, by show 1 ≤ c.T.last + 1; omega, Int.le_refl _, h1, h2, fun x hx => ⟨fun hk => hno ⟨x, hx, hk⟩, by have := (I.bnd x hx).2.2.2.2.1; show x.e ≠ c.T.last + 1; omega⟩⟩
  · refine List.pairwise_append.2 ⟨I.wp, List.pairwise_singleton _ _, fun f hf g hg => ?_⟩
    obtain rfl : g = ⟨e.z, e.h, c.T.last + 1⟩ := by simpa using hg
    have := (I.ws f hf).2.2.2.2.1
    exact ⟨h5 f hf, by show f.e ≠ c.T.last + 1; omega⟩
  · rcases I.os b t ht with g1 | ⟨g1, g2⟩
    · exact .inl g1
    · exact .inr ⟨g1, by show t.2 ≤ c.T.last + 1; omega⟩
theorem ackA_0 {c : Co} {e : Evt} (he : (ackA c e).er = 0) : ∃ A x B, c.W = A ++ x :: B ∧ x.z = e.z ∧ x.e = e.e ∧ x.h = e.h ∧ (ackC c e).W = A ++ B ∧ ackA c e = okA e.e := by
  unfold ackA at he ⊢
  by_cases h1 : ackI c e < c.W.length
  rotate_left
  · rw [if_neg h1] at he; exact absurd he (by decide)
  rw [if_pos h1] at he ⊢
  by_cases h2 : (nth fen0 c.W (ackI c e)).h ≠ e.h
  · rw [if_pos h2] at he; exact absurd he (by decide)
  rw [if_neg h2]
  have h3 : ackQ e c.W[ackI c e] = true := List.findIdx_getElem (w := h1)
  rw [nth_lt h1] at h2
  have h4 : c.W[ackI c e].z = e.z ∧ c.W[ackI c e].e = e.e := by simpa [ackQ] using h3
  refine ⟨c.W.take (ackI c e), c.W[ackI c e], c.W.drop (ackI c e + 1), ?_, h4.1, h4.2, Classical.not_not.1 h2, rfl, rfl⟩
  rw [List.getElem_cons_drop, List.take_append_drop]
theorem inv_ack {n : Nat} {c : Co} (I : Inv n c) {e : Evt} (he : (ackA c e).er = 0) : Inv (n + 1) (ackC c e) := by
  obtain ⟨A, x, B, hW, x1, x2, x3, hC, _⟩ := ackA_0 he
  have hxW : x ∈ c.W := by rw [hW]; simp
  obtain ⟨a1, a2, a3, a4, a5, a6, a7, a8⟩ := I.ws x hxW
  have hsub : ∀ f, f ∈ (ackC c e).W → f ∈ c.W ∧ (f.z ≠ x.z ∧ f.e ≠ x.e) := fun f hf => by
    have wp := I.wp
    rw [hC] at hf
    rw [hW] at wp ⊢
    obtain ⟨p1, p2, p3⟩ := List.pairwise_append.1 wp
    rcases List.mem_append.1 hf with h | h
    · exact ⟨by simp [h], p3 f h x (by simp)⟩
    · have := (List.pairwise_cons.1 p2).1 f h
      exact ⟨by simp [h], fun h' => this.1 h'.symm, fun h' => this.2 h'.symm⟩
  have hno : ¬ HasK c.T.L e.z := fun ⟨y, hy, hk⟩ => (a8 y hy).1 (hk.trans x1.symm)
  have hlen : (ackC c e).W.length + 1 = c.W.length := by rw [hC, hW]; simp; omega
  have hX : (ackC c e).T = ⟨c.T.last, c.T.now, insK (ackX c e) c.T.L⟩ := rfl
  have t1 := I.t1
  refine ⟨?_, I.S, I.e60, ?_, by have := I.nS; show c.S.length ≤ _; omega, by have := I.nW; omega, by have := I.la; show c.T.last ≤ ((n + 1 : Nat) : Int); omega, I.nw, I.t1, I.t2, I.z1, I.z8, fun y hy => ?_, fun f hf => ?_, ?_, fun b t ht => ?_⟩
  · rw [hX, chkT_iff]
    obtain ⟨c1, c2, c3, c4⟩ := (chkT_iff _).1 I.T
    refine ⟨fun y hy => ?_, pw_ins c2 fun y hy => ?_, c3, c4⟩
    · rcases mem_insK.1 hy with rfl | ⟨hy, _⟩
      · refine ⟨?_, ?_, ?_, ?_, ?_, ?_⟩ <;> simp only [ackX] <;> omega
      · exact c1 y hy
    · show y.e ≠ e.e
      rw [← x2]
      exact (a8 y hy).2
  · show (insK _ _).length ≤ _
    rw [insK_len _ _ hno]
    exact Nat.succ_le_succ I.nL
  · rcases mem_insK.1 hy with rfl | ⟨hy, _⟩
    · exact .inl (by show e.z < c.zn; rw [← x1]; exact a7)
    · exact I.ks y hy
  · obtain ⟨hf1, hf2⟩ := hsub f hf
    obtain ⟨b1, b2, b3, b4, b5, b6, b7, b8⟩ := I.ws f hf1
    refine ⟨has_insK b1, b2, b3, b4, b5, b6, b7, fun y hy => ?_⟩
    rcases mem_insK.1 hy with rfl | ⟨hy, _⟩
    · exact ⟨by show e.z ≠ f.z; rw [← x1]; exact fun h => hf2.1 h.symm, by show e.e ≠ f.e; rw [← x2]; exact fun h => hf2.2 h.symm⟩
    · exact b8 y hy
  · have wp := I.wp
    rw [hC]
    rw [hW] at wp
    exact wp.sublist (List.Sublist.append_left (List.sublist_cons_self x B) A)
  · rcases I.os b t ht with g1 | ⟨g1, g2⟩
    · exact .inl g1
    · exact .inr ⟨has_insK g1, g2⟩
end Go.Proofs.C8
namespace Go.Proofs.C8
open Go Go.Proofs Go.SX Go.RowKit Go.Proofs.L6
theorem spanA_0 {c : Co} {e : Evt} (he : (spanA c e).er = 0) : memP c e.h ∧ S7.Within c.S e.fr e.to ∧ heldS c.S e = false ∧ S7.giveE c.S e.fr e.to e.h (c.T.last + 1) = 0 ∧ spanA c e = okA (c.T.last + 1) := by
  unfold spanA at he ⊢
  by_cases h1 : memP c e.h
  rotate_left
  · rw [if_pos h1] at he; exact absurd he (by decide)
  rw [if_neg (not_not_intro h1)] at he ⊢
  by_cases h2 : S7.Within c.S e.fr e.to
  rotate_left
  · rw [if_pos h2] at he; exact absurd he (by decide)
  rw [if_neg (not_not_intro h2)] at he ⊢
  by_cases h3 : heldS c.S e = true
  · rw [if_pos h3] at he; exact absurd he (by decide)
  rw [if_neg h3] at he ⊢
  by_cases h4 : S7.giveE c.S e.fr e.to e.h (c.T.last + 1) = 0
  · rw [if_neg (not_not_intro h4)]
    exact ⟨h1, h2, by simpa using h3, h4, rfl⟩
  · rw [if_pos h4] at he
    exact absurd he h4
theorem give_len (L : List Spn) (f t o e : Int) : (S7.giveL L f t o e).length ≤ L.length + 2 := by
  unfold S7.giveL
  split
  · have h1 := joinS_len' ((S7.cutsS [f, t] L).map (S7.giv f t o e))
    have h2 := S7.cutsS_len [f, t] L
    simp only [List.length_map] at h1
    simp only [List.length_cons, List.length_nil] at h2
    omega
  · simp
theorem inv_span {n : Nat} {c : Co} (I : Inv n c) {e : Evt} (he : (spanA c e).er = 0) : Inv (n + 1) (spanC c e) := by
  obtain ⟨h1, h2, h3, h4, _⟩ := spanA_0 he
  obtain ⟨m1, m2, m3⟩ := (I.mem _).1 h1
  obtain ⟨g1, g2, _, g4⟩ := S7.give_facts h4
  refine ⟨chkT_more I.T, g1, by show S7.endS 0 (S7.giveL _ _ _ _ _) = 60; rw [g2, I.e60], Nat.le_succ_of_le I.nL, ?_, Nat.le_succ_of_le I.nW, ?_, I.nw, I.t1, I.t2, I.z1, I.z8, I.ks, fun f hf => ?_, I.wp, fun b t ht => ?_⟩
  · have := give_len c.S e.fr e.to e.h (c.T.last + 1)
    have := I.nS
    show (S7.giveL _ _ _ _ _).length ≤ _
    omega
  · show c.T.last + 1 ≤ ((n + 1 : Nat) : Int)
    have := I.la
    omega
  · obtain ⟨a1, a2, a3, a4, a5, a6, a7, a8⟩ := I.ws f hf
    exact ⟨a1, a2, a3, a4, by show f.e ≤ c.T.last + 1; omega, a6, a7, a8⟩
  · have ht := (g4 b t).1 ht
    split at ht
    · rw [ht]
      exact .inr ⟨m3, Int.le_refl _⟩
    · rcases I.os b t ht with g1 | ⟨g1, g2⟩
      · exact .inl g1
      · exact .inr ⟨g1, by show t.2 ≤ c.T.last + 1; omega⟩
theorem gone_facts : ∀ (M : List Lse) (c : Co), S7.ChkP c.S → (∀ l ∈ M, l.k < 2008) →
    S7.ChkP (goneC c M).S ∧ S7.endS 0 (goneC c M).S = S7.endS 0 c.S ∧ (∀ b t, S7.HasS (goneC c M).S b t → t.1 = -1 ∨ (S7.HasS c.S b t ∧ ∀ l ∈ M, l.k ≠ 2000 + t.1)) ∧
    (goneC c M).W.Sublist c.W ∧ ∀ f ∈ (goneC c M).W, ∀ l ∈ M, 2000 ≤ l.k → l.k ≠ 2000 + f.h
  | [], c, hS, _ => ⟨hS, rfl, fun b t h => .inr ⟨h, by simp⟩, List.Sublist.refl _, by simp⟩
  | l :: r, c, hS, hk => by
    have hl := hk l List.mem_cons_self
    have hr : ∀ x ∈ r, x.k < 2008 := fun x hx => hk x (List.mem_cons_of_mem _ hx)
    have one : S7.ChkP (gone1 c l).S ∧ S7.endS 0 (gone1 c l).S = S7.endS 0 c.S ∧ (∀ b t, S7.HasS (gone1 c l).S b t → t.1 = -1 ∨ (S7.HasS c.S b t ∧ l.k ≠ 2000 + t.1)) ∧
        (gone1 c l).W.Sublist c.W ∧ ∀ f ∈ (gone1 c l).W, 2000 ≤ l.k → l.k ≠ 2000 + f.h := by
      unfold gone1
      by_cases h0 : l.k - 2000 < 0
      · rw [if_pos h0]
        refine ⟨hS, rfl, fun b t h => ?_, List.Sublist.refl _, fun f _ h => by omega⟩
        rcases S7.hasS_may hS.1 h with ⟨g, _⟩ | ⟨g, _⟩
        · exact .inl g
        · exact .inr ⟨h, by omega⟩
      · rw [if_neg h0]
        have hT : S7.TakeOK c.S (l.k - 2000) := ⟨hS, by omega, by omega⟩
        have e0 : goneS c.S (l.k - 2000) = S7.takeL c.S (l.k - 2000) := if_pos (if_pos hT)
        obtain ⟨g1, g2, g3⟩ := S7.take_facts hT
        refine ⟨by show S7.ChkP (goneS _ _); rw [e0]; exact g1, by show S7.endS 0 (goneS _ _) = _; rw [e0]; exact g2, fun b t h => ?_, List.filter_sublist, fun f hf _ => ?_⟩
        · have h : S7.HasS (goneS c.S (l.k - 2000)) b t := h
          rw [e0, g3] at h
          obtain ⟨u, hu, rfl⟩ := h
          by_cases h1 : u.1 = l.k - 2000
          · exact .inl (by rw [if_pos h1])
          · rw [if_neg h1]
            exact .inr ⟨hu, by omega⟩
        · have := (List.mem_filter.1 hf).2
          simp at this
          omega
    obtain ⟨o1, o2, o3, o4, o5⟩ := one
    obtain ⟨r1, r2, r3, r4, r5⟩ := gone_facts r (gone1 c l) o1 hr
    refine ⟨r1, r2.trans o2, fun b t h => ?_, r4.trans o4, fun f hf x hx hx2 => ?_⟩
    · rcases r3 b t h with g | ⟨g, g2⟩
      · exact .inl g
      · rcases o3 b t g with g' | ⟨g', g''⟩
        · exact .inl g'
        · refine .inr ⟨g', fun x hx => ?_⟩
          rcases List.mem_cons.1 hx with rfl | hx
          · exact g''
          · exact g2 x hx
    · rcases List.mem_cons.1 hx with rfl | hx
      · exact o5 f (r4.subset hf) hx2
      · exact r5 f hf x hx hx2
theorem inv_gone {n : Nat} {c : Co} (I : Inv n c) {L' : List Lse} {now : Int} (M : List Lse) (hC : ChkT ⟨c.T.last, now, L'⟩) (hnow : now ≤ 1152921504606846976) (hs : ∀ x ∈ L', x ∈ c.T.L) (hl : L'.length ≤ c.T.L.length) (hM : ∀ x ∈ M, x ∈ c.T.L) (hor : ∀ x ∈ c.T.L, x ∈ L' ∨ x ∈ M) :
    Inv n (goneC { c with T := ⟨c.T.last, now, L'⟩ } M) := by
  have hk : ∀ x ∈ M, x.k < 2008 := fun x hx => by
    have := I.z8
    rcases I.ks x (hM x hx) with h | h | h <;> omega
  obtain ⟨g1, g2, g3, g4, g5⟩ := gone_facts M { c with T := ⟨c.T.last, now, L'⟩ } I.S hk
  obtain ⟨l1, l2, l3, l4, l5⟩ := goneC_len (c := { c with T := ⟨c.T.last, now, L'⟩ }) M
  have still : ∀ h, HasK c.T.L (2000 + h) → (∀ l ∈ M, l.k ≠ 2000 + h) → HasK L' (2000 + h) := fun h ⟨x, hx, hxk⟩ hn => by
    rcases hor x hx with h1 | h1
    · exact ⟨x, h1, hxk⟩
    · exact absurd hxk (hn x h1)
  refine ⟨by rw [l3]; exact hC, g1, g2.trans I.e60, by rw [l3]; exact Nat.le_trans hl I.nL, Nat.le_trans l1 I.nS, Nat.le_trans l2 I.nW, by rw [l3]; exact I.la, by rw [l3]; exact hnow, by rw [l4]; exact I.t1, by rw [l4]; exact I.t2, by rw [l5]; exact I.z1, by rw [l5]; exact I.z8, fun x hx => ?_, fun f hf => ?_, I.wp.sublist g4, fun b t ht => ?_⟩
  · rw [l3] at hx
    rw [l5]
    exact I.ks x (hs x hx)
  · obtain ⟨a1, a2, a3, a4, a5, a6, a7, a8⟩ := I.ws f (g4.subset hf)
    rw [l3, l5]
    exact ⟨still _ a1 fun l hl' => by
      by_cases h2 : 2000 ≤ l.k
      · exact g5 f hf l hl' h2
      · omega, a2, a3, a4, a5, a6, a7, fun x hx => a8 x (hs x hx)⟩
  · rw [l3]
    rcases g3 b t ht with h | ⟨h, h2⟩
    · exact .inl h
    · rcases I.os b t h with h3 | ⟨h3, h4⟩
      · exact .inl h3
      · exact .inr ⟨still _ h3 h2, h4⟩
theorem inv_tick {n : Nat} {c : Co} (I : Inv n c) {e : Evt} (hnow : e.now ≤ 1152921504606846976) (he : (tickA c e).er = 0) : Inv n (tickC c e) := by
  have hT : TickOK c.T e.now := by
    have h : tickE c.T e.now = 0 := he
    unfold tickE at h
    split at h
    · assumption
    · simp at h
  have e1 : tickT c.T e.now = ⟨c.T.last, e.now, c.T.L.filter fun x => decide (e.now < x.u)⟩ := if_pos hT
  have e2 : tickO c.T e.now = c.T.L.filter fun x => decide (x.u ≤ e.now) := if_pos hT
  unfold tickC
  rw [e1, e2]
  refine inv_gone I _ (chkT_tick hT) hnow (fun x hx => (List.mem_filter.1 hx).1) (List.length_filter_le _ _) (fun x hx => (List.mem_filter.1 hx).1) fun x hx => ?_
  by_cases h : e.now < x.u
  · exact .inl (List.mem_filter.2 ⟨hx, by simpa using h⟩)
  · exact .inr (List.mem_filter.2 ⟨hx, by simpa using (show x.u ≤ e.now by omega)⟩)
theorem leaveA_0 {c : Co} {e : Evt} (he : (leaveA c e).er = 0) : HasT c.T e.key ∧ (holdX c.T e.key).h = e.h ∧ (holdX c.T e.key).e = e.e ∧ revE c.T e.key = 0 := by
  unfold leaveA at he
  by_cases h1 : HasT c.T e.key
  rotate_left
  · rw [if_pos h1] at he; exact absurd he (by decide)
  rw [if_neg (not_not_intro h1)] at he
  by_cases h2 : (holdX c.T e.key).h ≠ e.h ∨ (holdX c.T e.key).e ≠ e.e
  · rw [if_pos h2] at he; exact absurd he (by decide)
  rw [if_neg h2] at he
  exact ⟨h1, Classical.not_not.1 fun h => h2 (.inl h), Classical.not_not.1 fun h => h2 (.inr h), he⟩
theorem inv_leave {n : Nat} {c : Co} (I : Inv n c) {e : Evt} (he : (leaveA c e).er = 0) : Inv n (leaveC c e) := by
  obtain ⟨h1, h2, h3, h4⟩ := leaveA_0 he
  have e1 : revT c.T e.key = ⟨c.T.last, c.T.now, delK e.key c.T.L⟩ := if_pos h4
  have e2 : leaveC c e = goneC { c with T := revT c.T e.key } [holdX c.T e.key] := rfl
  have e3 : holdX c.T e.key = getK c.T.L e.key := if_pos h1
  obtain ⟨g1, g2⟩ := hasK_get h1.2
  rw [e2, e1, e3]
  refine inv_gone I _ (chkT_del I.T) I.nw (fun x hx => (List.mem_filter.1 hx).1) (List.length_filter_le _ _) (fun x hx => by rw [List.mem_singleton.1 hx]; exact g1) fun x hx => ?_
  by_cases h : x.k = e.key
  · refine .inr (List.mem_singleton.2 ?_)
    exact pw_eq ((chkT_iff _).1 I.T).2.1 hx g1 (h.trans g2.symm)
  · exact .inl (List.mem_filter.2 ⟨hx, by simpa using h⟩)
theorem has_map {k m : Int} {L : List Lse} {y : Int} : HasK (L.map (upK k m)) y ↔ HasK L y := by
  constructor
  · rintro ⟨x, hx, hk⟩
    obtain ⟨z, hz, rfl⟩ := List.mem_map.1 hx
    exact ⟨z, hz, by rw [← hk, upK_k]⟩
  · rintro ⟨x, hx, hk⟩
    exact ⟨_, List.mem_map.2 ⟨x, hx, rfl⟩, by rw [upK_k]; exact hk⟩
theorem inv_renew {n : Nat} {c : Co} (I : Inv n c) {e : Evt} (he : (renewA c e).er = 0) : Inv n (renewC c e) := by
  have e1 : (renewC c e).T = ⟨c.T.last, c.T.now, c.T.L.map (upK e.key (c.T.now + c.ttl))⟩ := if_pos he
  refine ⟨by rw [e1]; exact chkT_ren I.T, I.S, I.e60, by rw [e1]; simpa using I.nL, I.nS, I.nW, by rw [e1]; exact I.la, by rw [e1]; exact I.nw, I.t1, I.t2, I.z1, I.z8, fun x hx => ?_, fun f hf => ?_, I.wp, fun b t ht => ?_⟩
  · rw [e1] at hx
    obtain ⟨z, hz, rfl⟩ := List.mem_map.1 hx
    rw [upK_k, upK_h]
    exact I.ks z hz
  · obtain ⟨a1, a2, a3, a4, a5, a6, a7, a8⟩ := I.ws f hf
    rw [e1]
    refine ⟨has_map.2 a1, a2, a3, a4, a5, a6, a7, fun x hx => ?_⟩
    obtain ⟨z, hz, rfl⟩ := List.mem_map.1 hx
    rw [upK_k, upK_e]
    exact a8 z hz
  · rw [e1]
    rcases I.os b t ht with g | ⟨g, g2⟩
    · exact .inl g
    · exact .inr ⟨has_map.2 g, g2⟩
theorem inv_do {n : Nat} {c : Co} (I : Inv n c) {e : Evt} (hnow : e.now ≤ 1152921504606846976) : Inv (n + 1) (doC c e) := by
  unfold doC
  by_cases he : (doA c e).er = 0
  rotate_left
  · rw [if_neg he]
    exact I.up
  rw [if_pos he]
  have hm : may e := by
    by_cases h : may e
    · exact h
    · unfold doA at he
      rw [if_neg h] at he
      exact absurd he (by decide)
  unfold doA at he
  rw [if_pos hm] at he
  obtain ⟨h1, h2, h3⟩ := hm
  unfold opA at he
  unfold opC
  by_cases d1 : e.d = 1
  · rw [if_pos d1] at he ⊢
    obtain ⟨b1, b2⟩ := h3 (by omega)
    exact inv_grant I (.inr ⟨by omega, by omega, by omega⟩) (grantA_er.symm.trans he)
  rw [if_neg d1] at he ⊢
  by_cases d2 : e.d = 2
  · rw [if_pos d2] at he ⊢
    exact inv_zone I he
  rw [if_neg d2] at he ⊢
  by_cases d3 : e.d = 3
  · rw [if_pos d3] at he ⊢
    exact inv_ack I he
  rw [if_neg d3] at he ⊢
  by_cases d4 : e.d = 4
  · rw [if_pos d4] at he ⊢
    exact inv_span I he
  rw [if_neg d4] at he ⊢
  by_cases d5 : e.d = 5
  · rw [if_pos d5] at he ⊢
    unfold electA at he
    by_cases hm : memP c e.h
    rotate_left
    · rw [if_pos hm] at he; exact absurd he (by decide)
    rw [if_neg (not_not_intro hm)] at he
    exact inv_grant I (.inl rfl) (grantA_er.symm.trans he)
  rw [if_neg d5] at he ⊢
  by_cases d6 : e.d = 6
  · rw [if_pos d6] at he ⊢
    exact (inv_tick I hnow he).up
  rw [if_neg d6] at he ⊢
  by_cases d7 : e.d = 7
  · rw [if_pos d7] at he ⊢
    exact (inv_renew I he).up
  rw [if_neg d7] at he ⊢
  exact (inv_leave I he).up
theorem inv_all : ∀ (L : List Evt) {n : Nat} {c : Co}, Inv n c → (∀ x ∈ L, x.now ≤ 1152921504606846976) → Inv (n + L.length) (allC c L)
  | [], n, c, I, _ => I
  | e :: r, n, c, I, h => by
    have := inv_all r (inv_do I (h e List.mem_cons_self)) fun x hx => h x (List.mem_cons_of_mem _ hx)
    have e1 : n + (e :: r).length = n + 1 + r.length := by simp only [List.length_cons]; omega
    rw [e1]
    exact this
theorem Inv.pre {n : Nat} {c : Co} (I : Inv n c) (hn : n ≤ 1000) (e : Evt) : Pre c e := by
  have a1 := I.nL
  have a2 := I.nS
  have a3 := I.nW
  have a4 := I.la
  have a5 := I.nw
  have a6 := I.t1
  have a7 := I.t2
  have a8 := I.T.2.1
  have a9 := I.T.2.2
  have z8 := I.z8
  refine ⟨⟨by omega, S7.ChkP.ne I.S, by omega, by omega, by omega, by omega, by omega, by omega, by omega, by omega⟩, fun x hx => ?_, chk_srt I.T, fun hi => ?_⟩
  · have b := (I.bnd x hx).1
    rcases I.ks x hx with h | h | h <;> omega
  · have h3 : ackQ e c.W[ackI c e] = true := List.findIdx_getElem (w := hi)
    have h4 : c.W[ackI c e].z = e.z ∧ c.W[ackI c e].e = e.e := by simpa [ackQ] using h3
    have h5 := (I.ws _ (List.getElem_mem hi)).2.2.2.2.2.2.2
    rintro ⟨x, hx, hk⟩
    exact (h5 x hx).1 (hk.trans h4.1.symm)
end Go.Proofs.C8
