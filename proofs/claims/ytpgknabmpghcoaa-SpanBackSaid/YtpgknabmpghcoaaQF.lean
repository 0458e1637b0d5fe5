/- Spans, the plain law: owners' blocks; taking. -/
import Derived.Test.YtpgknabmpghcoaaQB
import Derived.Test.YtpgknabmpghcoaaQD
import Derived.Test.YtpgknabmpghcoaaPU
namespace Go.Proofs
set_option linter.unusedVariables false
set_option linter.unusedSimpArgs false
open Go Go.SX Go.RowKit

theorem chkS_free {o : Int} : ∀ {L : List Spn} {last : Int}, ChkS last L → ChkS last (L.map (freeS o)) ∧ endS last (L.map (freeS o)) = endS last L
  | [], _, _ => ⟨trivial, rfl⟩
  | s :: r, last, h => by
    obtain ⟨i1, i2⟩ := chkS_free (o := o) h.2.2.2
    have e1 : (freeS o s).fr = s.fr := by unfold freeS; split <;> rfl
    have e2 : (freeS o s).to = s.to := by unfold freeS; split <;> rfl
    refine ⟨⟨by rw [e1]; exact h.1, by rw [e1, e2]; exact h.2.1, ?_, by rw [e2]; exact i1⟩, by simp only [List.map_cons, endS, e2]; exact i2⟩
    unfold freeS
    split
    · exact .inl ⟨rfl, rfl⟩
    · exact h.2.2.1
theorem chkP_free {o : Int} {L : List Spn} (h : ChkP L) : ChkP (L.map (freeS o)) := by
  obtain ⟨g1, g2⟩ := chkS_free (o := o) h.1
  exact ⟨g1, by rw [g2]; exact h.2.1, by rw [g2]; exact h.2.2⟩

theorem takeL_len (L : List Spn) (o : Int) : (takeL L o).length ≤ L.length := by
  unfold takeL
  split
  · have := join_len (L.map (freeS o))
    simpa using this
  · simp
theorem takeW_len (L : List Spn) (o : Int) : (takeW L o).length ≤ L.length := by
  unfold takeW
  split
  · exact List.length_filter_le _ _
  · simp

/-- How many blocks spans have. -/
def sumS : List Spn → Int
  | [] => 0
  | s :: r => (s.to - s.fr) + sumS r
theorem sumS_append : ∀ A B : List Spn, sumS (A ++ B) = sumS A + sumS B
  | [], B => by simp [sumS]
  | s :: r, B => by simp only [List.cons_append, sumS, sumS_append r B]; omega
theorem sumS_own (o : Int) : ∀ L : List Spn, sumS (L.filter (ownS o)) = ownedS o L
  | [] => rfl
  | s :: r => by
    have ih := sumS_own o r
    by_cases h : s.ow = o
    · rw [List.filter_cons_of_pos (by simp [ownS, h])]
      simp only [sumS, ownedS, if_pos h, ih]
    · rw [List.filter_cons_of_neg (by simp [ownS, h])]
      simp only [ownedS, if_neg h, ih]
      omega
theorem sumS_nonneg : ∀ {L : List Spn}, (∀ s ∈ L, s.fr < s.to) → 0 ≤ sumS L
  | [], _ => by simp [sumS]
  | s :: r, h => by
    have h1 := h s (by simp)
    have h2 := sumS_nonneg (L := r) fun x hx => h x (by simp [hx])
    simp only [sumS]
    omega
theorem sumS_take {L : List Spn} (h : ∀ s ∈ L, s.fr < s.to) (k : Nat) : 0 ≤ sumS (L.take k) ∧ sumS (L.take k) ≤ sumS L := by
  have e := sumS_append (L.take k) (L.drop k)
  rw [List.take_append_drop] at e
  have h1 := sumS_nonneg (L := L.take k) fun s hs => h s (List.mem_of_mem_take hs)
  have h2 := sumS_nonneg (L := L.drop k) fun s hs => h s (List.mem_of_mem_drop hs)
  omega
theorem mem_chk {L : List Spn} {s : Spn} (h : ChkP L) (hs : s ∈ L) : s.fr < s.to ∧ 0 ≤ s.fr ∧ s.to ≤ endS 0 L := by
  obtain ⟨j, hj, rfl⟩ := List.mem_iff_getElem.1 hs
  have h1 := chkS_nth (j := j) h.1 hj
  rw [nth_lt hj] at h1
  refine ⟨h1.1, h1.2.1, ?_⟩
  have := hasS_high L 0 (b := L[j].to - 1) (t := (L[j].ow, L[j].ep)) h.1 ⟨_, hs, ⟨by omega, by omega⟩, rfl⟩
  omega

theorem owned_ge {o : Int} : ∀ {L : List Spn} {last f t : Int}, ChkS last L → last ≤ f → t ≤ endS last L → (∀ b, f ≤ b → b < t → ∃ u, HasS L b (o, u)) → t - f ≤ ownedS o L
  | [], last, f, t, _, h1, h2, _ => by
    simp only [endS] at h2
    simp only [ownedS]
    omega
  | s :: r, last, f, t, h, h1, h2, hb => by
    have a1 := h.1
    have a2 := h.2.1
    obtain ⟨b1, b2⟩ := ownedS_bound o h.2.2.2
    have hn : 0 ≤ (if s.ow = o then s.to - s.fr else 0) := by split <;> omega
    simp only [ownedS]
    rcases Int.lt_or_le f t with hft | hft
    rotate_left
    · omega
    rcases Int.lt_or_le f s.to with hf | hf
    · have hso : s.ow = o := by
        obtain ⟨u, hu⟩ := hb f (Int.le_refl _) hft
        have := hasS_uniq h hu (hasS_cons.2 (.inl ⟨⟨by omega, hf⟩, rfl⟩))
        simp only [Prod.mk.injEq] at this
        exact this.1.symm
      rw [if_pos hso]
      rcases Int.lt_or_le s.to t with ht | ht
      · have := owned_ge (L := r) (f := s.to) (t := t) h.2.2.2 (Int.le_refl _) h2 fun b g1 g2 => by
          obtain ⟨u, hu⟩ := hb b (by omega) g2
          rcases hasS_cons.1 hu with ⟨hi, _⟩ | hu
          · have := hi.2
            omega
          · exact ⟨u, hu⟩
        omega
      · omega
    · have := owned_ge (L := r) (f := f) (t := t) h.2.2.2 hf h2 fun b g1 g2 => by
        obtain ⟨u, hu⟩ := hb b g1 g2
        rcases hasS_cons.1 hu with ⟨hi, _⟩ | hu
        · have := hi.2
          omega
        · exact ⟨u, hu⟩
      omega

theorem owned_none {o : Int} : ∀ {L : List Spn}, (∀ s ∈ L, s.ow ≠ o) → ownedS o L = 0
  | [], _ => rfl
  | s :: r, h => by
    simp only [ownedS, if_neg (h s (by simp)), owned_none (L := r) fun x hx => h x (by simp [hx])]
    rfl

theorem hasS_free {o : Int} {L : List Spn} {b : Int} {u : Int × Int} : HasS (L.map (freeS o)) b u ↔ ∃ u', HasS L b u' ∧ u = if u'.1 = o then (-1, 0) else u' := by
  have e1 : ∀ s : Spn, (freeS o s).fr = s.fr := fun s => by unfold freeS; split <;> rfl
  have e2 : ∀ s : Spn, (freeS o s).to = s.to := fun s => by unfold freeS; split <;> rfl
  have e3 : ∀ s : Spn, ((freeS o s).ow, (freeS o s).ep) = if s.ow = o then (-1, 0) else (s.ow, s.ep) := fun s => by unfold freeS; split <;> rfl
  constructor
  · rintro ⟨x, hx, hi, hu⟩
    obtain ⟨s, hs, rfl⟩ := List.mem_map.1 hx
    refine ⟨_, ⟨s, hs, ?_, rfl⟩, ?_⟩
    · unfold InS at hi ⊢
      rwa [e1, e2] at hi
    · rw [← hu, e3]
  · rintro ⟨u', ⟨s, hs, hi, rfl⟩, rfl⟩
    refine ⟨_, List.mem_map.2 ⟨s, hs, rfl⟩, ?_, ?_⟩
    · unfold InS at hi ⊢
      rwa [e1, e2]
    · rw [e3]

theorem take_facts {L : List Spn} {o : Int} (h : TakeOK L o) : ChkP (takeL L o) ∧ endS 0 (takeL L o) = endS 0 L ∧ NoGoL (takeL L o) ∧ (∀ b u, HasS (takeL L o) b u ↔ ∃ u', HasS L b u' ∧ u = if u'.1 = o then (-1, 0) else u') ∧ ownedS o (takeL L o) = 0 := by
  have e : takeL L o = joinS (L.map (freeS o)) := if_pos h
  rw [e]
  obtain ⟨j1, j2, j3⟩ := join_facts (chkP_free (o := o) h.1)
  refine ⟨j1, by rw [j2, (chkS_free (o := o) h.1.1).2], join_noGo _ [] trivial, fun b u => by rw [j3, hasS_free], ?_⟩
  refine owned_none fun s hs hso => ?_
  have hc := mem_chk j1 hs
  have h1 : HasS (joinS (L.map (freeS o))) s.fr (s.ow, s.ep) := ⟨s, hs, ⟨Int.le_refl _, hc.1⟩, rfl⟩
  rw [j3, hasS_free] at h1
  obtain ⟨u', _, hu⟩ := h1
  have := h.2.1
  split at hu
  · simp only [Prod.mk.injEq] at hu
    omega
  · rename_i hne
    rw [← hu] at hne
    exact hne hso
end Go.Proofs
