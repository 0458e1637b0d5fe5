/- Spans, the plain law: what giving changes. -/
import Derived.Test.YtpgknabmpghcoaaPQ
namespace Go.Proofs
set_option linter.unusedVariables false
set_option linter.unusedSimpArgs false
open Go Go.SX Go.RowKit

theorem hasS_some {L : List Spn} {b : Int} (h : ChkP L) (h0 : 0 ≤ b) (h1 : b < endS 0 L) : ∃ t, HasS L b t := by
  obtain ⟨j, hj, hi⟩ := inS_some h.1 h0 h1
  exact ⟨_, _, nth_mem (d := spn0) hj, hi, rfl⟩

theorem hasS_high : ∀ (L : List Spn) (last : Int) {b : Int} {t : Int × Int}, ChkS last L → HasS L b t → b < endS last L
  | [], _, _, _, _, ⟨_, h, _⟩ => by cases h
  | s :: r, last, b, t, h, ⟨x, hx, hi, ht⟩ => by
    show b < endS s.to r
    rcases List.mem_cons.1 hx with rfl | hx
    · have := hi.2
      have := endS_le r _ h.2.2.2
      omega
    · exact hasS_high r s.to h.2.2.2 ⟨x, hx, hi, ht⟩

theorem hasS_uniq : ∀ {L : List Spn} {last b : Int} {t u : Int × Int}, ChkS last L → HasS L b t → HasS L b u → t = u
  | [], _, _, _, _, _, ⟨_, h, _⟩, _ => by cases h
  | s :: r, last, b, t, u, h, h1, h2 => by
    rcases hasS_cons.1 h1 with ⟨i1, e1⟩ | h1 <;> rcases hasS_cons.1 h2 with ⟨i2, e2⟩ | h2
    · rw [← e1, ← e2]
    · have := hasS_low r s.to h.2.2.2 h2
      have := i1.2
      omega
    · have := hasS_low r s.to h.2.2.2 h1
      have := i2.2
      omega
    · exact hasS_uniq h.2.2.2 h1 h2

theorem hasS_may : ∀ {L : List Spn} {last b : Int} {t : Int × Int}, ChkS last L → HasS L b t → MayO t.1 t.2
  | [], _, _, _, _, ⟨_, h, _⟩ => by cases h
  | s :: r, last, b, t, h, h1 => by
    rcases hasS_cons.1 h1 with ⟨_, e⟩ | h1
    · rw [← e]; exact h.2.2.1
    · exact hasS_may h.2.2.2 h1

theorem giv_in {f t b : Int} {s : Spn} (hf : ¬ (s.fr < f ∧ f < s.to)) (ht : ¬ (s.fr < t ∧ t < s.to)) (hi : InS b s) : Giv f t s ↔ f ≤ b ∧ b < t := by
  have h1 := hi.1
  have h2 := hi.2
  unfold Giv
  constructor
  · rintro ⟨a, c⟩; omega
  · rintro ⟨a, c⟩; omega

theorem giv_fr {f t o e : Int} {s : Spn} : (giv f t o e s).fr = s.fr := by unfold giv; split <;> rfl
theorem giv_to {f t o e : Int} {s : Spn} : (giv f t o e s).to = s.to := by unfold giv; split <;> rfl

theorem chkS_giv {f t o e : Int} (hM : MayO o e) : ∀ {C : List Spn} {last : Int}, ChkS last C → ChkS last (C.map (giv f t o e)) ∧ endS last (C.map (giv f t o e)) = endS last C
  | [], _, _ => ⟨trivial, rfl⟩
  | s :: r, last, h => by
    obtain ⟨i1, i2⟩ := chkS_giv (f := f) (t := t) hM h.2.2.2
    refine ⟨⟨by rw [giv_fr]; exact h.1, by rw [giv_fr, giv_to]; exact h.2.1, ?_, by rw [giv_to]; exact i1⟩, by simp only [List.map_cons, endS, giv_to]; exact i2⟩
    unfold giv
    split
    · exact hM
    · exact h.2.2.1

theorem giveE_cases (L : List Spn) (f t o e : Int) : giveE L f t o e = 1 ∧ ¬ (Within L f t ∧ MayO o e) ∨ Within L f t ∧ MayO o e ∧ (giveE L f t o e = 61 ∧ oldS f t o e (cutsS [f, t] L) = true ∨ giveE L f t o e = 0 ∧ oldS f t o e (cutsS [f, t] L) = false) := by
  unfold giveE
  by_cases h : Within L f t ∧ MayO o e
  · rw [if_pos h]
    refine .inr ⟨h.1, h.2, ?_⟩
    by_cases h2 : oldS f t o e (cutsS [f, t] L) = true
    · rw [if_pos h2]; exact .inl ⟨rfl, h2⟩
    · rw [if_neg h2]; exact .inr ⟨rfl, by simpa using h2⟩
  · rw [if_neg h]; exact .inl ⟨rfl, h⟩

theorem old_iff {L : List Spn} {f t o e : Int} (h : Within L f t) : oldS f t o e (cutsS [f, t] L) = true ↔ o ≠ -1 ∧ ∃ b u, f ≤ b ∧ b < t ∧ HasS L b u ∧ u.1 ≠ -1 ∧ e ≤ u.2 := by
  obtain ⟨c1, c2, c3, c4, c5⟩ := cutsS_facts [f, t] h.1.1
  rw [oldS_iff]
  constructor
  · rintro ⟨s, hs, hg, ho, hw, he⟩
    obtain ⟨j, hj, rfl⟩ := List.mem_iff_getElem.1 hs
    have h1 := (chkS_nth (j := j) c1 hj).1
    rw [nth_lt hj] at h1
    refine ⟨ho, _, _, hg.1, ?_, (c3 _ _).1 ⟨_, hs, ⟨Int.le_refl _, h1⟩, rfl⟩, hw, he⟩
    have := hg.2
    omega
  · rintro ⟨ho, b, u, h1, h2, hh, hw, he⟩
    obtain ⟨s, hs, hi, hu⟩ := (c3 _ _).2 hh
    refine ⟨s, hs, (giv_in (c5 f (by simp) s hs) (c5 t (by simp) s hs) hi).2 ⟨h1, h2⟩, ho, ?_⟩
    rw [← hu] at hw he
    exact ⟨hw, he⟩

theorem give_facts {L : List Spn} {f t o e : Int} (h : giveE L f t o e = 0) : ChkP (giveL L f t o e) ∧ endS 0 (giveL L f t o e) = endS 0 L ∧ NoGoL (giveL L f t o e) ∧ ∀ b u, HasS (giveL L f t o e) b u ↔ if f ≤ b ∧ b < t then u = (o, e) else HasS L b u := by
  have hc := giveE_cases L f t o e
  rw [h] at hc
  rcases hc with ⟨h', _⟩ | ⟨hW, hM, ⟨h', _⟩ | ⟨_, ho⟩⟩
  · simp at h'
  · simp at h'
  obtain ⟨c1, c2, c3, c4, c5⟩ := cutsS_facts [f, t] hW.1.1
  unfold giveL
  rw [if_pos h]
  obtain ⟨g1, g2⟩ := chkS_giv (f := f) (t := t) hM c1
  have hX : ChkP ((cutsS [f, t] L).map (giv f t o e)) := ⟨g1, by rw [g2, c2]; exact hW.1.2.1, by rw [g2, c2]; exact hW.1.2.2⟩
  obtain ⟨j1, j2, j3⟩ := join_facts hX
  refine ⟨j1, by rw [j2, g2, c2], join_noGo _ [] trivial, fun b u => ?_⟩
  rw [j3]
  have key : HasS ((cutsS [f, t] L).map (giv f t o e)) b u ↔ ∃ s ∈ cutsS [f, t] L, InS b s ∧ (if f ≤ b ∧ b < t then (o, e) else (s.ow, s.ep)) = u := by
    have hg : ∀ s ∈ cutsS [f, t] L, InS b s → ((giv f t o e s).ow, (giv f t o e s).ep) = if f ≤ b ∧ b < t then (o, e) else (s.ow, s.ep) := fun s hs hi => by
      have := giv_in (c5 f (by simp) s hs) (c5 t (by simp) s hs) hi
      unfold giv
      by_cases h' : f ≤ b ∧ b < t
      · rw [if_pos (this.2 h'), if_pos h']
      · rw [if_neg (fun h'' => h' (this.1 h'')), if_neg h']
    have hin : ∀ s, InS b (giv f t o e s) ↔ InS b s := fun s => by unfold InS; rw [giv_fr, giv_to]
    constructor
    · rintro ⟨x, hx, hi, hu⟩
      obtain ⟨s, hs, rfl⟩ := List.mem_map.1 hx
      exact ⟨s, hs, (hin s).1 hi, by rw [← hg s hs ((hin s).1 hi)]; exact hu⟩
    · rintro ⟨s, hs, hi, hu⟩
      exact ⟨_, List.mem_map.2 ⟨s, hs, rfl⟩, (hin s).2 hi, by rw [hg s hs hi]; exact hu⟩
  rw [key]
  by_cases h' : f ≤ b ∧ b < t
  · simp only [if_pos h']
    constructor
    · rintro ⟨_, _, _, hu⟩; exact hu.symm
    · intro hu
      obtain ⟨v, s, hs, hi, _⟩ := hasS_some hW.1 (b := b) (by have := hW.2.1; omega) (by have := hW.2.2.2; omega)
      obtain ⟨s', hs', hi', _⟩ := (c3 b v).2 ⟨s, hs, hi, by assumption⟩
      exact ⟨s', hs', hi', hu.symm⟩
  · simp only [if_neg h']
    rw [← c3]
    rfl
end Go.Proofs
