/- Leases, the plain law: tables that are granted, taken back, renewed. -/
import Derived.Test.YtnabelpgmcenlaaLL
namespace Go.Proofs
set_option linter.unusedVariables false
set_option linter.unusedSimpArgs false
open Go Go.SX Go.RowKit

def Bnd (last now prev : Int) (s : Lse) : Prop := prev < s.k ∧ 0 ≤ s.h ∧ s.h < 8 ∧ 1 ≤ s.e ∧ s.e ≤ last ∧ now < s.u
def Rl (a b : Lse) : Prop := a.k < b.k ∧ a.e ≠ b.e

theorem chkL_pw (last now : Int) : ∀ (L : List Lse) (prev : Int) (met : List Int), ChkL last now prev met L ↔ (∀ x ∈ L, Bnd last now prev x ∧ x.e ∉ met) ∧ L.Pairwise Rl
  | [], _, _ => by simp [ChkL]
  | s :: r, prev, met => by
    rw [ChkL, chkL_pw last now r s.k (s.e :: met), List.pairwise_cons]
    constructor
    · rintro ⟨⟨a1, a2, a3, a4, a5, a6, a7⟩, h2, h3⟩
      refine ⟨fun x hx => ?_, fun x hx => ⟨(h2 x hx).1.1, fun h => (h2 x hx).2 (by rw [← h]; exact List.mem_cons_self)⟩, h3⟩
      rcases List.mem_cons.1 hx with rfl | hx
      · exact ⟨⟨a1, a2, a3, a4, a5, a6⟩, a7⟩
      · obtain ⟨⟨b1, b2⟩, b3⟩ := h2 x hx
        exact ⟨⟨by omega, b2⟩, fun h => b3 (List.mem_cons_of_mem _ h)⟩
    · rintro ⟨h1, h2, h3⟩
      obtain ⟨⟨a1, a2, a3, a4, a5, a6⟩, a7⟩ := h1 s (by simp)
      refine ⟨⟨a1, a2, a3, a4, a5, a6, a7⟩, fun x hx => ?_, h3⟩
      obtain ⟨⟨b1, b2⟩, b3⟩ := h1 x (by simp [hx])
      refine ⟨⟨(h2 x hx).1, b2⟩, fun h => ?_⟩
      rcases List.mem_cons.1 h with h | h
      · exact (h2 x hx).2 h.symm
      · exact b3 h

theorem chkT_iff (t : Tab) : ChkT t ↔ (∀ x ∈ t.L, Bnd t.last t.now (-1) x) ∧ t.L.Pairwise Rl ∧ 0 ≤ t.last ∧ 0 ≤ t.now := by
  unfold ChkT
  rw [chkL_pw]
  simp only [List.not_mem_nil, not_false_eq_true, and_true, and_assoc]

theorem pw_ne : ∀ {L : List Lse}, L.Pairwise Rl → ∀ {a b : Lse}, a ∈ L → b ∈ L → a.k < b.k → a.e ≠ b.e
  | [], _, _, _, h, _, _ => by cases h
  | s :: r, h, a, b, ha, hb, hk => by
    rw [List.pairwise_cons] at h
    rcases List.mem_cons.1 ha with g1 | g1 <;> rcases List.mem_cons.1 hb with g2 | g2
    · rw [g1, g2] at hk; omega
    · rw [g1]; exact (h.1 b g2).2
    · have := (h.1 a g1).1
      rw [g2] at hk
      omega
    · exact pw_ne h.2 g1 g2 hk
theorem pw_eq : ∀ {L : List Lse}, L.Pairwise Rl → ∀ {a b : Lse}, a ∈ L → b ∈ L → a.k = b.k → a = b
  | [], _, _, _, h, _, _ => by cases h
  | s :: r, h, a, b, ha, hb, hk => by
    rw [List.pairwise_cons] at h
    rcases List.mem_cons.1 ha with g1 | g1 <;> rcases List.mem_cons.1 hb with g2 | g2
    · rw [g1, g2]
    · have := (h.1 b g2).1
      rw [g1] at hk
      omega
    · have := (h.1 a g1).1
      rw [g2] at hk
      omega
    · exact pw_eq h.2 g1 g2 hk

theorem mem_insK {x y : Lse} {L : List Lse} : y ∈ insK x L ↔ y = x ∨ (y ∈ L ∧ y.k ≠ x.k) := by
  simp only [insK, List.mem_append, List.mem_cons, List.mem_filter, decide_eq_true_eq]
  constructor
  · rintro (⟨h1, h2⟩ | h | ⟨h1, h2⟩)
    · exact .inr ⟨h1, by omega⟩
    · exact .inl h
    · exact .inr ⟨h1, by omega⟩
  · rintro (h | ⟨h1, h2⟩)
    · exact .inr (.inl h)
    · rcases Int.lt_or_le y.k x.k with h | h
      · exact .inl ⟨h1, h⟩
      · exact .inr (.inr ⟨h1, by omega⟩)

theorem pw_ins {x : Lse} {L : List Lse} (h : L.Pairwise Rl) (he : ∀ y ∈ L, y.e ≠ x.e) : (insK x L).Pairwise Rl := by
  unfold insK
  rw [List.pairwise_append, List.pairwise_cons]
  refine ⟨h.filter _, ⟨fun y hy => ?_, h.filter _⟩, fun a ha b hb => ?_⟩
  · simp only [List.mem_filter, decide_eq_true_eq] at hy
    exact ⟨hy.2, fun h' => he y hy.1 h'.symm⟩
  · simp only [List.mem_filter, decide_eq_true_eq] at ha
    rcases List.mem_cons.1 hb with rfl | hb
    · exact ⟨ha.2, he a ha.1⟩
    · simp only [List.mem_filter, decide_eq_true_eq] at hb
      exact ⟨by omega, pw_ne h ha.1 hb.1 (by omega)⟩

/-- What is granted may be. -/
theorem chkT_grant {t : Tab} {key host ttl : Int} (h : GrantOK t key host ttl) : ChkT ⟨t.last + 1, t.now, insK (newX t key host ttl) t.L⟩ := by
  obtain ⟨⟨g1, g2, gc⟩, k0, h0, h8⟩ := h
  rw [chkT_iff] at gc ⊢
  obtain ⟨c1, c2, c3, c4⟩ := gc
  refine ⟨fun y hy => ?_, pw_ins c2 fun y hy => ?_, by show 0 ≤ t.last + 1; omega, c4⟩
  · rcases mem_insK.1 hy with rfl | ⟨hy, _⟩
    · refine ⟨?_, h0, h8, ?_, ?_, ?_⟩ <;> simp only [newX] <;> omega
    · obtain ⟨b1, b2, b3, b4, b5, b6⟩ := c1 y hy
      exact ⟨b1, b2, b3, b4, by show y.e ≤ t.last + 1; omega, b6⟩
  · obtain ⟨b1, b2, b3, b4, b5, b6⟩ := c1 y hy
    simp only [newX]
    omega

theorem chkT_more {t : Tab} (h : ChkT t) : ChkT ⟨t.last + 1, t.now, t.L⟩ := by
  rw [chkT_iff] at h ⊢
  obtain ⟨c1, c2, c3, c4⟩ := h
  refine ⟨fun y hy => ?_, c2, by show 0 ≤ t.last + 1; omega, c4⟩
  obtain ⟨b1, b2, b3, b4, b5, b6⟩ := c1 y hy
  exact ⟨b1, b2, b3, b4, by show y.e ≤ t.last + 1; omega, b6⟩

theorem del_ins {x : Lse} : ∀ {L : List Lse}, Srt L → ¬ HasK L x.k → delK x.k (insK x L) = L := fun {L} hs hn => by
  have h0 : insK x L = (L.filter fun y => decide (y.k < x.k)) ++ x :: (L.filter fun y => decide (x.k < y.k)) := rfl
  unfold delK
  have f1 : (L.filter fun y => decide (y.k < x.k)).filter (fun z => decide (z.k ≠ x.k)) = L.filter fun y => decide (y.k < x.k) := by
    rw [List.filter_eq_self]
    intro y hy
    simp only [List.mem_filter, decide_eq_true_eq] at hy ⊢
    omega
  have f2 : (L.filter fun y => decide (x.k < y.k)).filter (fun z => decide (z.k ≠ x.k)) = L.filter fun y => decide (x.k < y.k) := by
    rw [List.filter_eq_self]
    intro y hy
    simp only [List.mem_filter, decide_eq_true_eq] at hy ⊢
    omega
  rw [h0, List.filter_append, List.filter_cons_of_neg (by simp), f1, f2]
  · -- the two parts together are the list
    have key : ∀ (L : List Lse), L.Pairwise (fun a b => a.k < b.k) → ¬ HasK L x.k → (L.filter fun y => decide (y.k < x.k)) ++ (L.filter fun y => decide (x.k < y.k)) = L := fun L => by
      induction L with
      | nil => intro _ _; rfl
      | cons s r ih =>
        intro hp hn
        rw [List.pairwise_cons] at hp
        have hn2 : ¬ HasK r x.k := fun ⟨y, hy, hk⟩ => hn ⟨y, by simp [hy], hk⟩
        have hsx : s.k ≠ x.k := fun h => hn ⟨s, by simp, h⟩
        by_cases hlt : s.k < x.k
        · rw [List.filter_cons_of_pos (by simpa using hlt), List.filter_cons_of_neg (by simp; omega), List.cons_append, ih hp.2 hn2]
        · rw [List.filter_cons_of_neg (by simpa using hlt), List.filter_cons_of_pos (by simp; omega), List.filter_eq_nil_iff.2, List.nil_append, List.filter_eq_self.2]
          · intro y hy
            have := hp.1 y hy
            simp only [decide_eq_true_eq]
            omega
          · intro y hy
            have := hp.1 y hy
            simp only [decide_eq_true_eq]
            omega
    refine key L ?_ hn
    rw [List.pairwise_iff_getElem]
    intro i j hi hj hij
    have := hs i j hij hj
    rwa [nth_lt hi, nth_lt hj] at this

theorem has_ins {x : Lse} {L : List Lse} : HasK (insK x L) x.k := ⟨x, mem_insK.2 (.inl rfl), rfl⟩
theorem get_ins {t : Tab} {x : Lse} (h : ChkT t) (hm : x ∈ t.L) : getK t.L x.k = x := by
  obtain ⟨h1, h2⟩ := hasK_get (L := t.L) ⟨x, hm, rfl⟩
  exact pw_eq ((chkT_iff t).1 h).2.1 h1 hm h2
end Go.Proofs
