/- Requests: DedupLast walked. -/
import Derived.Test.YtffooiccklfhlaaNM
namespace Go.Proofs
set_option linter.unusedVariables false
set_option linter.unusedSimpArgs false
set_option linter.unusedSectionVars false
open Go Go.SX Go.RowKit

/-- The answers from one number on. -/
def rowS (lo n : Nat) : List Sad := (List.range n).map fun j => ⟨2 * ((lo + j : Nat) : Int), mgK (100 + ((lo + j : Nat) : Int))⟩
/-- What is known of five behind i rounds. -/
def FiveN (L : List Sen) (i : Nat) : Prop :=
  (i = 0 → ofN L 5 = none) ∧ (getN L 5).S = rowS (i - 8) (min i 8) ∧ (getN L 5).below = (if i ≤ 8 then 0 else 2 * ((i : Int) - 9) + 1)
theorem rowS_len (lo n : Nat) : (rowS lo n).length = n := by simp [rowS]
theorem rowS_mem {lo n : Nat} {x : Sad} : x ∈ rowS lo n ↔ ∃ j, j < n ∧ x = ⟨2 * ((lo + j : Nat) : Int), mgK (100 + ((lo + j : Nat) : Int))⟩ := by
  simp only [rowS, List.mem_map, List.mem_range]
  constructor
  · rintro ⟨j, hj, rfl⟩; exact ⟨j, hj, rfl⟩
  · rintro ⟨j, hj, rfl⟩; exact ⟨j, hj, rfl⟩
theorem rowS_nth {lo n j : Nat} (h : j < n) : nth sad0 (rowS lo n) j = ⟨2 * ((lo + j : Nat) : Int), mgK (100 + ((lo + j : Nat) : Int))⟩ := by
  simp [nth, rowS, h]
theorem rowS_succ (lo n : Nat) : rowS lo (n + 1) = rowS lo n ++ [⟨2 * ((lo + n : Nat) : Int), mgK (100 + ((lo + n : Nat) : Int))⟩] := by
  simp [rowS, List.range_succ]
theorem rowS_drop (lo n : Nat) : (rowS lo (n + 1)).drop 1 = rowS (lo + 1) n := by
  apply List.ext_getElem
  · simp [rowS]
  · intro j h1 h2
    simp only [rowS, List.getElem_drop, List.getElem_map, List.getElem_range]
    have e : lo + (1 + j) = lo + 1 + j := by omega
    rw [e]
theorem rowS_ans {lo n i : Nat} : ansS (rowS lo n) (2 * (i : Int)) = if lo ≤ i ∧ i < lo + n then some ⟨2 * (i : Int), mgK (100 + (i : Int))⟩ else none := by
  by_cases h : lo ≤ i ∧ i < lo + n
  · rw [if_pos h]
    have hp : (rowS lo n).Pairwise (fun x y => x.id < y.id) := by
      rw [List.pairwise_iff_getElem]
      intro a b ha hb hab
      simp only [rowS, List.getElem_map, List.getElem_range]
      omega
    refine (ansS_iff hp).2 ⟨rowS_mem.2 ⟨i - lo, by omega, ?_⟩, rfl⟩
    have e : lo + (i - lo) = i := by omega
    rw [e]
  · rw [if_neg h, ansS_none]
    intro x hx
    obtain ⟨j, hj, rfl⟩ := rowS_mem.1 hx
    simp only
    omega

theorem FiveN.ask {L : List Sen} {n : Nat} (hC : ChkN (-1) L) (h : FiveN L n) (i : Nat) :
    askK L 5 (2 * (i : Int)) = (if i + 8 < n then 2 else if i < n then 1 else 0) ∧ (n ≤ i + 8 → i < n → askM L 5 (2 * (i : Int)) = mgK (100 + (i : Int))) := by
  obtain ⟨_, h2, h3⟩ := h
  have e1 := (ask_eq (f := 5) (i := 2 * (i : Int)) hC).1
  have e2 := (ask_eq (f := 5) (i := 2 * (i : Int)) hC).2
  rw [h2, h3, rowS_ans] at e1 e2
  by_cases c1 : i + 8 < n
  · rw [if_pos c1, e1, if_pos (.inr (by rw [if_neg (by omega)]; omega))]
    exact ⟨rfl, fun h => by omega⟩
  · have hb : ¬ (2 * (i : Int) < 0 ∨ 2 * (i : Int) < if n ≤ 8 then 0 else 2 * ((n : Int) - 9) + 1) := by
      split <;> omega
    rw [if_neg hb] at e1 e2
    rw [if_neg c1]
    by_cases c2 : i < n
    · have hc : n - 8 ≤ i ∧ i < n - 8 + min n 8 := by omega
      rw [if_pos hc] at e1 e2
      rw [if_pos c2]
      exact ⟨e1, fun _ _ => e2⟩
    · have hc : ¬ (n - 8 ≤ i ∧ i < n - 8 + min n 8) := by omega
      rw [if_neg hc] at e1
      rw [if_neg c2]
      exact ⟨e1, fun _ h => absurd h c2⟩

theorem FiveN.step {L L' : List Sen} {i : Nat} (h : FiveN L i) (hC : ChkN (-1) L) (hD : DoneTo L 5 ⟨2 * (i : Int), mgK (100 + (i : Int))⟩ L') : FiveN L' (i + 1) := by
  obtain ⟨s', hs', hU⟩ := hD.self
  have e : getN L' 5 = s' := by rw [getN, hs']; rfl
  obtain ⟨_, h2, h3⟩ := h
  obtain ⟨_, q, hq, hp, hA, hB⟩ := hU
  have hsr := chkS_srt ((getN_ok (f := 5) hC (by omega)).1.2.2.2)
  obtain ⟨p1, p2⟩ := hp.2 hsr
  rw [h2] at hq p1 p2 hA hB
  rw [rowS_len] at hq p2 hA hB
  have hqe : q = min i 8 := by
    rcases Nat.lt_or_ge q (min i 8) with h5 | h5
    · have h6 := p2 q (Nat.le_refl _) h5
      rw [rowS_nth h5] at h6
      simp only at h6
      omega
    · omega
  subst hqe
  have hQ : (rowS (i - 8) (min i 8)).take (min i 8) ++ (⟨2 * (i : Int), mgK (100 + (i : Int))⟩ : Sad) :: (rowS (i - 8) (min i 8)).drop (min i 8) = rowS (i - 8) (min i 8 + 1) := by
    rw [List.take_of_length_le (by rw [rowS_len]; omega), List.drop_of_length_le (by rw [rowS_len]; omega), rowS_succ]
    have e1 : i - 8 + min i 8 = i := by omega
    rw [e1]
  rw [hQ] at hA hB
  refine ⟨fun h => by omega, ?_, ?_⟩
  · rw [e]
    by_cases h8 : i < 8
    · rw [(hA (by omega)).2]
      have e1 : i - 8 = i + 1 - 8 := by omega
      have e2 : min i 8 + 1 = min (i + 1) 8 := by omega
      rw [e1, e2]
    · rw [(hB (by omega)).2]
      have e1 : min i 8 + 1 = 8 + 1 := by omega
      have e2 : min (i + 1) 8 = 8 := by omega
      have e3 : i + 1 - 8 = i - 8 + 1 := by omega
      rw [e1, rowS_drop, e2, e3]
  · rw [e]
    by_cases h8 : i < 8
    · rw [(hA (by omega)).1, h3, if_pos (by omega), if_pos (by omega)]
    · rw [(hB (by omega)).1, rowS_nth (by omega), if_neg (by omega)]
      simp only [Nat.add_zero]
      omega
theorem FiveN.keep {L L' : List Sen} {i : Nat} {f : Int} {x : Sad} (h : FiveN L i) (hD : DoneTo L f x L') (hf : f ≠ 5) : FiveN L' i := by
  have e0 := hD.other 5 (Ne.symm hf)
  have e : getN L' 5 = getN L 5 := by rw [getN, getN, e0]
  exact ⟨fun hi => by rw [e0]; exact h.1 hi, by rw [e]; exact h.2.1, by rw [e]; exact h.2.2⟩
end Go.Proofs
