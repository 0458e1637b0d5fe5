/- Spans, the plain law: cutting; giving. -/
import Derived.Test.YtpgknabmpghcoaaPO
import Derived.Test.YtpgknabmpghcoaaPH
namespace Go.Proofs
set_option linter.unusedVariables false
set_option linter.unusedSimpArgs false
open Go Go.SX Go.RowKit

theorem chkS_nth : ∀ {L : List Spn} {last : Int} {j : Nat}, ChkS last L → j < L.length → (nth spn0 L j).fr < (nth spn0 L j).to ∧ last ≤ (nth spn0 L j).fr ∧ MayO (nth spn0 L j).ow (nth spn0 L j).ep
  | [], _, j, _, h => by simp at h
  | s :: r, last, 0, h, _ => ⟨h.2.1, by have := h.1; show last ≤ s.fr; omega, h.2.2.1⟩
  | s :: r, last, j + 1, h, hj => by
    obtain ⟨h1, h2, h3⟩ := chkS_nth (j := j) h.2.2.2 (by simpa using hj)
    have a1 := h.1
    have a2 := h.2.1
    exact ⟨h1, by show last ≤ (nth spn0 r j).fr; omega, h3⟩

theorem chkS_lt : ∀ {L : List Spn} {last : Int} {i j : Nat}, ChkS last L → i < j → j < L.length → (nth spn0 L i).to ≤ (nth spn0 L j).fr
  | [], _, _, j, _, _, h => by simp at h
  | s :: r, last, 0, j + 1, h, _, hj => (chkS_nth (j := j) h.2.2.2 (by simpa using hj)).2.1
  | s :: r, last, i + 1, j + 1, h, hij, hj => chkS_lt (L := r) (i := i) (j := j) h.2.2.2 (by omega) (by simpa using hj)

theorem cutS_facts (a : Int) : ∀ {L : List Spn} {last : Int}, ChkS last L → ChkS last (cutS a L) ∧ endS last (cutS a L) = endS last L ∧ ∀ b t, HasS (cutS a L) b t ↔ HasS L b t
  | [], _, h => ⟨h, rfl, fun _ _ => Iff.rfl⟩
  | s :: r, last, h => by
    unfold cutS
    by_cases hi : InS a s
    · rw [if_pos hi]
      by_cases hf : s.fr = a
      · rw [if_pos hf]
        exact ⟨h, rfl, fun _ _ => Iff.rfl⟩
      · rw [if_neg hf]
        have h1 := hi.1
        have h2 := hi.2
        refine ⟨⟨h.1, by show s.fr < a; omega, h.2.2.1, rfl, h2, h.2.2.1, h.2.2.2⟩, rfl, fun b t => ?_⟩
        rw [hasS_cons, hasS_cons, hasS_cons, ← or_assoc]
        refine or_congr ?_ Iff.rfl
        unfold InS
        simp only
        constructor
        · rintro (⟨⟨a1, a2⟩, a3⟩ | ⟨⟨a1, a2⟩, a3⟩)
          · exact ⟨⟨a1, by omega⟩, a3⟩
          · exact ⟨⟨by omega, a2⟩, a3⟩
        · rintro ⟨⟨a1, a2⟩, a3⟩
          rcases Int.lt_or_le b a with h' | h'
          · exact .inl ⟨⟨a1, h'⟩, a3⟩
          · exact .inr ⟨⟨h', a2⟩, a3⟩
    · rw [if_neg hi]
      obtain ⟨i1, i2, i3⟩ := cutS_facts a h.2.2.2
      exact ⟨⟨h.1, h.2.1, h.2.2.1, i1⟩, i2, fun b t => by rw [hasS_cons, hasS_cons, i3]⟩

/-- Each span is a part of one that was there. -/
theorem cutS_sub (a : Int) : ∀ {L : List Spn} {s : Spn}, s ∈ cutS a L → ∃ r ∈ L, r.fr ≤ s.fr ∧ s.to ≤ r.to ∧ s.ow = r.ow ∧ s.ep = r.ep
  | [], s, h => by simp [cutS] at h
  | x :: r, s, h => by
    unfold cutS at h
    split at h
    · rename_i hi
      have h1 := hi.1
      have h2 := hi.2
      split at h
      · exact ⟨s, h, Int.le_refl _, Int.le_refl _, rfl, rfl⟩
      · rcases List.mem_cons.1 h with rfl | h
        · exact ⟨x, by simp, Int.le_refl _, by show a ≤ x.to; omega, rfl, rfl⟩
        · rcases List.mem_cons.1 h with rfl | h
          · exact ⟨x, by simp, h1, Int.le_refl _, rfl, rfl⟩
          · exact ⟨s, by simp [h], Int.le_refl _, Int.le_refl _, rfl, rfl⟩
    · rcases List.mem_cons.1 h with rfl | h
      · exact ⟨_, by simp, Int.le_refl _, Int.le_refl _, rfl, rfl⟩
      · obtain ⟨y, hy, h'⟩ := cutS_sub a h
        exact ⟨y, by simp [hy], h'⟩

/-- No span goes over a place. -/
def Apart (a : Int) (L : List Spn) : Prop := ∀ s ∈ L, ¬ (s.fr < a ∧ a < s.to)

theorem cutS_apart (a : Int) : ∀ {L : List Spn} {last : Int}, ChkS last L → Apart a (cutS a L)
  | [], _, _ => by intro s h; simp [cutS] at h
  | x :: r, last, h => by
    have low : ∀ y ∈ r, x.to ≤ y.fr := fun y hy => by
      obtain ⟨j, hj, rfl⟩ := List.mem_iff_getElem.1 hy
      have := (chkS_nth (j := j) h.2.2.2 hj).2.1
      rwa [nth_lt hj] at this
    intro s hs
    unfold cutS at hs
    split at hs
    · rename_i hi
      have h2 := hi.2
      split at hs
      · rename_i hf
        rcases List.mem_cons.1 hs with rfl | hs
        · omega
        · have := low s hs
          omega
      · rcases List.mem_cons.1 hs with rfl | hs
        · show ¬ (x.fr < a ∧ a < a); omega
        · rcases List.mem_cons.1 hs with rfl | hs
          · show ¬ (a < a ∧ a < x.to); omega
          · have := low s hs
            omega
    · rename_i hi
      rcases List.mem_cons.1 hs with rfl | hs
      · intro hc
        exact hi ⟨by omega, hc.2⟩
      · exact cutS_apart a h.2.2.2 s hs

theorem Apart.cut {a c : Int} {L : List Spn} (h : Apart c L) : Apart c (cutS a L) := by
  intro s hs
  obtain ⟨r, hr, h1, h2, _⟩ := cutS_sub a hs
  have := h r hr
  omega

theorem cutsS_facts : ∀ (A : List Int) {L : List Spn} {last : Int}, ChkS last L → ChkS last (cutsS A L) ∧ endS last (cutsS A L) = endS last L ∧ (∀ b t, HasS (cutsS A L) b t ↔ HasS L b t) ∧ (∀ c, Apart c L → Apart c (cutsS A L)) ∧ ∀ a ∈ A, Apart a (cutsS A L)
  | [], L, last, h => ⟨h, rfl, fun _ _ => Iff.rfl, fun _ h => h, fun _ h => by simp at h⟩
  | a :: A, L, last, h => by
    obtain ⟨h1, h2, h3⟩ := cutS_facts a h
    obtain ⟨i1, i2, i3, i4, i5⟩ := cutsS_facts A h1
    refine ⟨i1, by rw [cutsS, i2, h2], fun b t => by rw [cutsS, i3, h3], fun c hc => i4 c hc.cut, fun c hc => ?_⟩
    rcases List.mem_cons.1 hc with rfl | hc
    · exact i4 _ (cutS_apart _ h)
    · exact i5 c hc

theorem cutsS_len : ∀ (A : List Int) (L : List Spn), (cutsS A L).length ≤ L.length + A.length
  | [], L => by simp [cutsS]
  | a :: A, L => by
    have h1 := cutsS_len A (cutS a L)
    have h2 := cutS_len a L
    simp only [cutsS, List.length_cons]
    omega
theorem cutsS_pos : ∀ (A : List Int) {L : List Spn}, 0 < L.length → 0 < (cutsS A L).length
  | [], _, h => h
  | a :: A, L, h => cutsS_pos A (cutS_pos a h)

/-! ### Giving -/
/-- A span that is given. -/
def Giv (f t : Int) (s : Spn) : Prop := f ≤ s.fr ∧ s.to ≤ t
instance (f t : Int) (s : Spn) : Decidable (Giv f t s) := by unfold Giv; infer_instance
def giv (f t o e : Int) (s : Spn) : Spn := if Giv f t s then { s with ow := o, ep := e } else s
/-- One that must not be given under this epoch. -/
def Old (f t o e : Int) (s : Spn) : Prop := Giv f t s ∧ o ≠ -1 ∧ s.ow ≠ -1 ∧ e ≤ s.ep
instance (f t o e : Int) (s : Spn) : Decidable (Old f t o e s) := by unfold Old; infer_instance
def oldS (f t o e : Int) (L : List Spn) : Bool := L.any fun s => decide (Old f t o e s)
/-- What Give tells. -/
def giveE (L : List Spn) (f t o e : Int) : Int := if Within L f t ∧ MayO o e then (if oldS f t o e (cutsS [f, t] L) then 61 else 0) else 1
def giveL (L : List Spn) (f t o e : Int) : List Spn := if giveE L f t o e = 0 then joinS ((cutsS [f, t] L).map (giv f t o e)) else []

theorem oldS_iff {f t o e : Int} {L : List Spn} : oldS f t o e L = true ↔ ∃ s ∈ L, Old f t o e s := by simp [oldS]
end Go.Proofs
