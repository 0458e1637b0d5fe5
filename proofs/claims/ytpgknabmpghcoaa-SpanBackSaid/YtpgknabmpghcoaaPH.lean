/- Spans, the plain law: two joined lists with the same blocks are one. -/
import Derived.Test.YtpgknabmpghcoaaPG
namespace Go.Proofs
set_option linter.unusedVariables false
set_option linter.unusedSimpArgs false
open Go Go.SX Go.RowKit

theorem hasS_low : ∀ (L : List Spn) (last : Int) {b : Int} {t : Int × Int}, ChkS last L → HasS L b t → last ≤ b
  | [], _, _, _, _, ⟨_, h, _⟩ => by cases h
  | s :: r, last, b, t, h, ⟨x, hx, hi, ht⟩ => by
    have h1 := h.1
    have h2 := h.2.1
    rcases List.mem_cons.1 hx with rfl | hx
    · have := hi.1
      omega
    · have := hasS_low r s.to h.2.2.2 ⟨x, hx, hi, ht⟩
      omega

theorem hasS_cons {s : Spn} {r : List Spn} {b : Int} {t : Int × Int} : HasS (s :: r) b t ↔ (InS b s ∧ (s.ow, s.ep) = t) ∨ HasS r b t := by
  rw [show s :: r = [s] ++ r from rfl, HasS.append, HasS.one]

theorem not_short {x y : Spn} {A B : List Spn} {last : Int} (hA : ChkS last (x :: A)) (hB : ChkS last (y :: B)) (nA : NoGoL (x :: A)) (hl : LikeS x y) (h : ∀ b t, HasS (y :: B) b t → HasS (x :: A) b t) : ¬ x.to < y.to := by
  intro hlt
  have a1 := hA.1
  have a2 := hA.2.1
  have b1 := hB.1
  have h1 := h x.to (y.ow, y.ep) (hasS_cons.2 (.inl ⟨⟨by omega, hlt⟩, rfl⟩))
  rcases hasS_cons.1 h1 with ⟨hi, _⟩ | h2
  · have := hi.2
    omega
  · rcases A with _ | ⟨z, A⟩
    · obtain ⟨_, h, _⟩ := h2
      cases h
    · have c := hA.2.2.2
      rcases hasS_cons.1 h2 with ⟨_, ht⟩ | h3
      · simp only [Prod.mk.injEq] at ht
        exact nA.1 ⟨hl.1.trans ht.1.symm, hl.2.trans ht.2.symm⟩
      · have := hasS_low A z.to c.2.2.2 h3
        have := c.1
        have := c.2.1
        omega

theorem normS_uniq : ∀ (A B : List Spn) (last : Int), ChkS last A → ChkS last B → NoGoL A → NoGoL B → (∀ b t, HasS A b t ↔ HasS B b t) → A = B
  | [], [], _, _, _, _, _, _ => rfl
  | [], y :: B, _, _, hB, _, _, h => by
    obtain ⟨_, h', _⟩ := (h y.fr (y.ow, y.ep)).2 (hasS_cons.2 (.inl ⟨⟨Int.le_refl _, hB.2.1⟩, rfl⟩))
    cases h'
  | x :: A, [], _, hA, _, _, _, h => by
    obtain ⟨_, h', _⟩ := (h x.fr (x.ow, x.ep)).1 (hasS_cons.2 (.inl ⟨⟨Int.le_refl _, hA.2.1⟩, rfl⟩))
    cases h'
  | x :: A, y :: B, last, hA, hB, nA, nB, h => by
    have a1 := hA.1
    have a2 := hA.2.1
    have b1 := hB.1
    have b2 := hB.2.1
    have hl : LikeS x y := by
      rcases hasS_cons.1 ((h x.fr (x.ow, x.ep)).1 (hasS_cons.2 (.inl ⟨⟨Int.le_refl _, a2⟩, rfl⟩))) with ⟨_, ht⟩ | h2
      · simp only [Prod.mk.injEq] at ht
        exact ⟨ht.1.symm, ht.2.symm⟩
      · have := hasS_low B y.to hB.2.2.2 h2
        omega
    have n1 := not_short hA hB nA hl fun b t h' => (h b t).2 h'
    have n2 := not_short hB hA nB ⟨hl.1.symm, hl.2.symm⟩ fun b t h' => (h b t).1 h'
    have e1 : x.to = y.to := by omega
    have e0 : x = y := by
      rcases x with ⟨x1, x2, x3, x4⟩
      rcases y with ⟨y1, y2, y3, y4⟩
      obtain ⟨l1, l2⟩ := hl
      simp only at a1 b1 e1 l1 l2
      subst a1 e1 l1 l2
      rw [b1]
    subst e0
    have tl : ∀ b t, HasS A b t ↔ HasS B b t := fun b t => by
      constructor
      · intro h'
        have := hasS_low A x.to hA.2.2.2 h'
        rcases hasS_cons.1 ((h b t).1 (hasS_cons.2 (.inr h'))) with ⟨hi, _⟩ | h2
        · have := hi.2
          omega
        · exact h2
      · intro h'
        have := hasS_low B x.to hB.2.2.2 h'
        rcases hasS_cons.1 ((h b t).2 (hasS_cons.2 (.inr h'))) with ⟨hi, _⟩ | h2
        · have := hi.2
          omega
        · exact h2
    have tA : NoGoL A := by cases A with | nil => trivial | cons z r => exact nA.2
    have tB : NoGoL B := by cases B with | nil => trivial | cons z r => exact nB.2
    rw [normS_uniq A B x.to hA.2.2.2 hB.2.2.2 tA tB tl]
end Go.Proofs
