/- Leases: LeaseApart walked. -/
import Derived.Test.YtnabelpgmcenlaaLP
namespace Go.Proofs
set_option linter.unusedVariables false
set_option linter.unusedSimpArgs false
open Go Go.SX Go.RowKit

theorem pw_map {f : Lse → Lse} (hk : ∀ x, (f x).k = x.k) (he : ∀ x, (f x).e = x.e) {L : List Lse} (h : L.Pairwise Rl) : (L.map f).Pairwise Rl := by
  rw [List.pairwise_map]
  refine h.imp fun {a b} hab => ?_
  unfold Rl at hab ⊢
  rw [hk, hk, he, he]
  exact hab
theorem upK_k {key m : Int} (x : Lse) : (upK key m x).k = x.k := by unfold upK; split <;> rfl
theorem upK_e {key m : Int} (x : Lse) : (upK key m x).e = x.e := by unfold upK; split <;> rfl
theorem upK_h {key m : Int} (x : Lse) : (upK key m x).h = x.h := by unfold upK; split <;> rfl
theorem upK_u {key m : Int} (x : Lse) : x.u ≤ (upK key m x).u := by
  unfold upK
  split
  · show x.u ≤ maxI x.u m
    unfold maxI
    split <;> omega
  · exact Int.le_refl _
theorem chkT_ren {t : Tab} {key m : Int} (h : ChkT t) : ChkT ⟨t.last, t.now, t.L.map (upK key m)⟩ := by
  rw [chkT_iff] at h ⊢
  obtain ⟨c1, c2, c3, c4⟩ := h
  refine ⟨fun y hy => ?_, pw_map upK_k upK_e c2, c3, c4⟩
  obtain ⟨x, hx, rfl⟩ := List.mem_map.1 hy
  obtain ⟨b1, b2, b3, b4, b5, b6⟩ := c1 x hx
  have := upK_u (key := key) (m := m) x
  exact ⟨by rw [upK_k]; exact b1, by rw [upK_h]; exact b2, by rw [upK_h]; exact b3, by rw [upK_e]; exact b4, by rw [upK_e]; exact b5, by show t.now < _; omega⟩
theorem chkT_del {t : Tab} {key : Int} (h : ChkT t) : ChkT ⟨t.last, t.now, delK key t.L⟩ := by
  rw [chkT_iff] at h ⊢
  obtain ⟨c1, c2, c3, c4⟩ := h
  exact ⟨fun y hy => c1 y (List.mem_filter.1 hy).1, c2.filter _, c3, c4⟩

theorem same_key {t u : Tab} {key : Int} (ht : ChkT t) (hu : ChkT u) (h : ∀ z, z.k = key → (z ∈ u.L ↔ z ∈ t.L)) : (HasT u key ↔ HasT t key) ∧ holdX u key = holdX t key := by
  have h1 : HasK u.L key ↔ HasK t.L key := by
    constructor
    · rintro ⟨z, hz, hk⟩; exact ⟨z, (h z hk).1 hz, hk⟩
    · rintro ⟨z, hz, hk⟩; exact ⟨z, (h z hk).2 hz, hk⟩
  have h2 : HasT u key ↔ HasT t key := ⟨fun g => ⟨ht, h1.1 g.2⟩, fun g => ⟨hu, h1.2 g.2⟩⟩
  refine ⟨h2, ?_⟩
  unfold holdX
  by_cases hh : HasT t key
  · rw [if_pos hh, if_pos (h2.2 hh)]
    obtain ⟨g1, g2⟩ := hasK_get hh.2
    have := get_ins (x := getK t.L key) hu ((h _ g2).2 g1)
    rw [g2] at this
    exact this
  · rw [if_neg hh, if_neg (fun g => hh (h2.1 g))]

/-- What is done with one thing. -/
theorem body_apart {t : Tab} {o : Opr} {key : Int} (hC : ChkT t) (hk : o.a ≠ key) (hd : o.d ≠ 0) : (bodyE t o ≠ 0 → bodyT t o = tab0) ∧ (bodyE t o = 0 → ChkT (bodyT t o) ∧ (HasT (bodyT t o) key ↔ HasT t key) ∧ holdX (bodyT t o) key = holdX t key) := by
  by_cases d1 : o.d = 1
  · have hE : bodyE t o = grantE t o.a o.b o.c := by rw [bodyE, if_neg hd, if_pos d1]
    have hT : bodyT t o = grantT t o.a o.b o.c := by rw [bodyT, if_neg hd, if_pos d1]
    rw [hE, hT]
    refine ⟨fun h => if_neg h, fun h => ?_⟩
    have hOK : GrantOK t o.a o.b o.c := by
      unfold grantE at h
      split at h
      · assumption
      · omega
    have hu := chkT_grant hOK
    rw [show grantT t o.a o.b o.c = ⟨t.last + 1, t.now, insK (newX t o.a o.b o.c) t.L⟩ from if_pos h]
    refine ⟨hu, same_key hC hu fun z hz => ?_⟩
    rw [mem_insK]
    constructor
    · rintro (rfl | h)
      · exact absurd hz hk
      · exact h.1
    · intro h
      exact .inr ⟨h, by rw [hz]; exact fun h => hk h.symm⟩
  by_cases d2 : o.d = 2
  · have hE : bodyE t o = renE t o.a o.b o.x o.c := by rw [bodyE, if_neg hd, if_neg d1, if_pos d2]
    have hT : bodyT t o = renT t o.a o.b o.x o.c := by rw [bodyT, if_neg hd, if_neg d1, if_pos d2]
    rw [hE, hT]
    refine ⟨fun h => if_neg h, fun h => ?_⟩
    have hu := chkT_ren (key := o.a) (m := t.now + o.c) hC
    rw [show renT t o.a o.b o.x o.c = ⟨t.last, t.now, t.L.map (upK o.a (t.now + o.c))⟩ from if_pos h]
    refine ⟨hu, same_key hC hu fun z hz => ?_⟩
    simp only [List.mem_map]
    constructor
    · rintro ⟨y, hy, rfl⟩
      rw [upK_k] at hz
      rw [upK, if_neg (by omega)]
      exact hy
    · intro h
      exact ⟨z, h, by rw [upK, if_neg (by omega)]⟩
  by_cases d3 : o.d = 3
  · have hE : bodyE t o = revE t o.a := by rw [bodyE, if_neg hd, if_neg d1, if_neg d2, if_pos d3]
    have hT : bodyT t o = revT t o.a := by rw [bodyT, if_neg hd, if_neg d1, if_neg d2, if_pos d3]
    rw [hE, hT]
    refine ⟨fun h => if_neg h, fun h => ?_⟩
    have hu := chkT_del (key := o.a) hC
    rw [show revT t o.a = ⟨t.last, t.now, delK o.a t.L⟩ from if_pos h]
    refine ⟨hu, same_key hC hu fun z hz => ?_⟩
    unfold delK
    rw [List.mem_filter]
    simp only [decide_eq_true_eq]
    exact ⟨fun h => h.1, fun h => ⟨h, by rw [hz]; exact fun h => hk h.symm⟩⟩
  · have hE : bodyE t o = 0 := by rw [bodyE, if_neg hd, if_neg d1, if_neg d2, if_neg d3]
    have hT : bodyT t o = t := by rw [bodyT, if_neg hd, if_neg d1, if_neg d2, if_neg d3]
    rw [hE, hT]
    exact ⟨fun h => absurd rfl h, fun _ => ⟨hC, Iff.rfl, rfl⟩⟩

theorem body_len (t : Tab) (o : Opr) : (bodyT t o).L.length ≤ t.L.length + 1 := by
  unfold bodyT
  split
  · unfold tickT
    split
    · have := List.length_filter_le (fun x : Lse => decide (o.a < x.u)) t.L
      show (t.L.filter _).length ≤ _
      omega
    · simp [tab0]
  · split
    · unfold grantT
      split
      · simp only [insK, List.length_append, List.length_cons]
        have key : ∀ (k : Int) (L : List Lse), (L.filter fun y => decide (y.k < k)).length + (L.filter fun y => decide (k < y.k)).length ≤ L.length := fun k L => by
          induction L with
          | nil => simp
          | cons s r ih =>
            by_cases h1 : s.k < k
            · rw [List.filter_cons_of_pos (by simpa using h1), List.filter_cons_of_neg (by simp; omega)]
              simp only [List.length_cons]
              omega
            · rw [List.filter_cons_of_neg (by simpa using h1)]
              by_cases h2 : k < s.k
              · rw [List.filter_cons_of_pos (by simpa using h2)]
                simp only [List.length_cons]
                omega
              · rw [List.filter_cons_of_neg (by simpa using h2)]
                simp only [List.length_cons]
                omega
        have := key (newX t o.a o.b o.c).k t.L
        omega
      · simp [tab0]
    · split
      · unfold renT
        split
        · simp
        · simp [tab0]
      · split
        · unfold revT
          split
          · have := List.length_filter_le (fun x : Lse => decide (x.k ≠ o.a)) t.L
            show (t.L.filter _).length ≤ _
            omega
          · simp [tab0]
        · omega
end Go.Proofs
