/- Leases: what a step leaves of a lease. -/
import Derived.Test.YtnabelpgmcenlaaLS
namespace Go.Proofs
set_option linter.unusedVariables false
set_option linter.unusedSimpArgs false
open Go Go.SX Go.RowKit

theorem mem_at {L : List Lse} {x : Lse} (h : x ∈ L) : ∃ j, j < L.length ∧ nth lse0 L j = x := by
  obtain ⟨j, hj, rfl⟩ := List.mem_iff_getElem.1 h
  exact ⟨j, hj, nth_lt hj⟩

theorem body_ends {t : Tab} {o : Opr} {key E : Int} (hC : ChkT t) (hE : bodyE t o = 0) (hm : (⟨key, 1, 1, E⟩ : Lse) ∈ t.L) :
    (o.d = 0 → E ≤ o.a → ¬ HasT (bodyT t o) key ∧ ∃ j, j < (bodyX t o).length ∧ (nth lse0 (bodyX t o) j).k = key) ∧
    (o.d = 3 → o.a = key → ¬ HasT (bodyT t o) key) ∧
    (¬ (o.d = 0 ∧ E ≤ o.a) → ¬ (o.d = 3 ∧ o.a = key) → ∃ E', E ≤ E' ∧ (⟨key, 1, 1, E'⟩ : Lse) ∈ (bodyT t o).L) := by
  have hpw := ((chkT_iff t).1 hC).2.1
  have uniq : ∀ y ∈ t.L, y.k = key → y = ⟨key, 1, 1, E⟩ := fun y hy hk => pw_eq hpw hy hm hk
  by_cases d0 : o.d = 0
  · have e1 : bodyE t o = tickE t o.a := if_pos d0
    have e2 : bodyT t o = tickT t o.a := if_pos d0
    have e3 : bodyX t o = tickO t o.a := if_pos d0
    rw [e1] at hE
    have hOK : TickOK t o.a := by
      unfold tickE at hE
      split at hE
      · assumption
      · omega
    rw [e2, e3, show tickT t o.a = ⟨t.last, o.a, t.L.filter fun x => decide (o.a < x.u)⟩ from if_pos hOK, show tickO t o.a = t.L.filter fun x => decide (x.u ≤ o.a) from if_pos hOK]
    refine ⟨fun _ hle => ⟨?_, ?_⟩, fun h => by omega, fun h _ => ?_⟩
    · rintro ⟨_, y, hy, hk⟩
      obtain ⟨h1, h2⟩ := List.mem_filter.1 hy
      have := uniq y h1 hk
      subst this
      have h3 : o.a < E := by simpa using h2
      omega
    · obtain ⟨j, hj, h⟩ := mem_at (List.mem_filter.2 ⟨hm, by simpa using hle⟩ : (⟨key, 1, 1, E⟩ : Lse) ∈ t.L.filter fun x => decide (x.u ≤ o.a))
      exact ⟨j, hj, by rw [h]⟩
    · exact ⟨E, Int.le_refl _, List.mem_filter.2 ⟨hm, by simp; omega⟩⟩
  by_cases d1 : o.d = 1
  · have e1 : bodyE t o = grantE t o.a o.b o.c := by rw [bodyE, if_neg d0, if_pos d1]
    have e2 : bodyT t o = grantT t o.a o.b o.c := by rw [bodyT, if_neg d0, if_pos d1]
    rw [e1] at hE
    have hOK : ¬ HasK t.L o.a := by
      have hE' := hE
      unfold grantE at hE'
      split at hE'
      · split at hE'
        · omega
        · assumption
      · omega
    rw [e2, show grantT t o.a o.b o.c = ⟨t.last + 1, t.now, insK (newX t o.a o.b o.c) t.L⟩ from if_pos hE]
    exact ⟨fun h => absurd h d0, fun h => by omega, fun _ _ => ⟨E, Int.le_refl _, mem_insK.2 (.inr ⟨hm, fun h => hOK ⟨_, hm, h⟩⟩)⟩⟩
  by_cases d2 : o.d = 2
  · have e1 : bodyE t o = renE t o.a o.b o.x o.c := by rw [bodyE, if_neg d0, if_neg d1, if_pos d2]
    have e2 : bodyT t o = renT t o.a o.b o.x o.c := by rw [bodyT, if_neg d0, if_neg d1, if_pos d2]
    rw [e1] at hE
    rw [e2, show renT t o.a o.b o.x o.c = ⟨t.last, t.now, t.L.map (upK o.a (t.now + o.c))⟩ from if_pos hE]
    refine ⟨fun h => absurd h d0, fun h => by omega, fun _ _ => ?_⟩
    by_cases hk : key = o.a
    · exact ⟨maxI E (t.now + o.c), by unfold maxI; split <;> omega, List.mem_map.2 ⟨_, hm, by rw [upK, if_pos hk]⟩⟩
    · exact ⟨E, Int.le_refl _, List.mem_map.2 ⟨_, hm, by rw [upK, if_neg hk]⟩⟩
  by_cases d3 : o.d = 3
  · have e1 : bodyE t o = revE t o.a := by rw [bodyE, if_neg d0, if_neg d1, if_neg d2, if_pos d3]
    have e2 : bodyT t o = revT t o.a := by rw [bodyT, if_neg d0, if_neg d1, if_neg d2, if_pos d3]
    rw [e1] at hE
    rw [e2, show revT t o.a = ⟨t.last, t.now, delK o.a t.L⟩ from if_pos hE]
    refine ⟨fun h => absurd h d0, fun _ hk => ?_, fun _ h => ⟨E, Int.le_refl _, List.mem_filter.2 ⟨hm, ?_⟩⟩⟩
    · rintro ⟨_, y, hy, hyk⟩
      have := (List.mem_filter.1 hy).2
      simp at this
      omega
    · simp
      intro h'
      exact h ⟨d3, h'.symm⟩
  · have e2 : bodyT t o = t := by rw [bodyT, if_neg d0, if_neg d1, if_neg d2, if_neg d3]
    rw [e2]
    exact ⟨fun h => absurd h d0, fun h => absurd h d3, fun _ _ => ⟨E, Int.le_refl _, hm⟩⟩

theorem body_xlen (t : Tab) (o : Opr) : (bodyX t o).length ≤ t.L.length + 1 := by
  unfold bodyX
  split
  · unfold tickO
    split
    · have := List.length_filter_le (fun x : Lse => decide (x.u ≤ o.a)) t.L
      omega
    · simp
  · repeat' split
    all_goals simp

theorem mem_hold {t : Tab} {x : Lse} (hC : ChkT t) (hm : x ∈ t.L) : HasT t x.k ∧ holdX t x.k = x := by
  have h : HasT t x.k := ⟨hC, x, hm, rfl⟩
  exact ⟨h, (if_pos h).trans (get_ins hC hm)⟩

/-- The first lease of a table. -/
theorem grant_first {key : Int} (h : 0 ≤ key) : grantE tab0 key 1 50 = 0 ∧ grantT tab0 key 1 50 = ⟨1, 0, [⟨key, 1, 1, 50⟩]⟩ ∧ grantX tab0 key 1 50 = ⟨key, 1, 1, 50⟩ ∧ ChkT ⟨1, 0, [⟨key, 1, 1, 50⟩]⟩ := by
  have hOK : GrantOK tab0 key 1 50 := ⟨⟨by decide, by decide, by decide⟩, h, by decide, by decide⟩
  have hE : grantE tab0 key 1 50 = 0 := (if_pos hOK).trans (if_neg (by rintro ⟨x, hx, _⟩; cases hx))
  have hT : grantT tab0 key 1 50 = ⟨1, 0, [⟨key, 1, 1, 50⟩]⟩ := (if_pos hE).trans rfl
  exact ⟨hE, hT, (if_pos hE).trans rfl, chkT_grant hOK⟩
end Go.Proofs
