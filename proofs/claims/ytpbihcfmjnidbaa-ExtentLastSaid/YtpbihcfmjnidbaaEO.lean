/- Extents: parts, gaps, how many blocks; plain. -/
import Derived.Test.YtpbihcfmjnidbaaEN
namespace Go.Proofs
set_option linter.unusedVariables false
set_option linter.unusedSimpArgs false
open Go Go.SX Go.RowKit

/-! ### Parts -/
theorem mem_part {L : List Ext} {lba n : Int} {i k : Nat} (hk : k ≤ L.length) {x : Ext} : x ∈ partL L lba n i k ↔ ∃ j, i ≤ j ∧ j < k ∧ clipE lba n (nth ext0 L j) = x := by
  unfold partL
  rw [List.mem_map]
  constructor
  · rintro ⟨e, he, rfl⟩
    obtain ⟨j, hj, rfl⟩ := List.mem_iff_getElem.1 he
    have hj' : j < k - i ∧ i + j < L.length := by
      rw [List.length_take, List.length_drop] at hj
      omega
    exact ⟨i + j, by omega, by omega, by rw [nth_lt hj'.2]; simp⟩
  · rintro ⟨j, h1, h2, rfl⟩
    refine ⟨nth ext0 L j, ?_, rfl⟩
    rw [nth_lt (by omega)]
    exact List.mem_iff_getElem.2 ⟨j - i, by simp; omega, by simp; congr 1; omega⟩

/-- What a clipped extent is. -/
theorem clip_facts {e : Ext} {lba n : Int} (hM : May e) (hB : Blocks lba n) (h1 : e.lba < lba + n) (h2 : lba < e.lba + e.n) :
    May (clipE lba n e) ∧ (∀ b, In b (clipE lba n e) ↔ In b e ∧ lba ≤ b ∧ b < lba + n) ∧ (∀ b, tell b (clipE lba n e) = tell b e) ∧ e.lba ≤ (clipE lba n e).lba ∧ (clipE lba n e).lba + (clipE lba n e).n ≤ e.lba + e.n ∧ lba ≤ (clipE lba n e).lba ∧ (clipE lba n e).lba + (clipE lba n e).n ≤ lba + n := by
  have hn : 0 < n := hB.2.1
  have hf : May (fromE e lba) := from_may hM h2
  have hfl : (fromE e lba).lba + (fromE e lba).n = e.lba + e.n ∧ e.lba ≤ (fromE e lba).lba ∧ lba ≤ (fromE e lba).lba ∧ (fromE e lba).lba < lba + n ∧ ((fromE e lba).lba = lba ∨ (fromE e lba).lba = e.lba) := by
    unfold fromE
    split
    · refine ⟨?_, ?_, ?_, ?_, .inl rfl⟩ <;> (try simp only) <;> omega
    · refine ⟨?_, ?_, ?_, ?_, .inr rfl⟩ <;> (try simp only) <;> omega
  have hfi : ∀ b, In b (fromE e lba) ↔ In b e ∧ lba ≤ b := fun b => by
    unfold In
    unfold fromE at *
    split
    · rename_i h
      simp only [if_pos h] at *
      omega
    · rename_i h
      simp only [if_neg h] at *
      omega
  have hu : ∀ b, In b (clipE lba n e) ↔ In b e ∧ lba ≤ b ∧ b < lba + n := fun b => by
    have h3 : In b (clipE lba n e) ↔ In b (fromE e lba) ∧ b < lba + n := by
      unfold clipE uptoE In
      simp only
      split <;> omega
    rw [h3, hfi]
    exact ⟨fun h => ⟨h.1.1, h.1.2, h.2⟩, fun h => ⟨⟨h.1, h.2.1⟩, h.2.2⟩⟩
  refine ⟨upto_may hf hfl.2.2.2.1, hu, fun b => from_tell, ?_, ?_, ?_, ?_⟩
  · show e.lba ≤ (fromE e lba).lba
    exact hfl.2.1
  · unfold clipE uptoE
    simp only
    split <;> omega
  · show lba ≤ (fromE e lba).lba
    exact hfl.2.2.1
  · unfold clipE uptoE
    simp only
    split <;> omega

structure PartFacts (L : List Ext) (lba n : Int) (Q : List Ext) : Prop where
  good : Good Q
  low : ∀ x ∈ Q, lba ≤ x.lba ∧ x.lba + x.n ≤ lba + n
  has : ∀ b t, Has Q b t ↔ (lba ≤ b ∧ b < lba + n) ∧ Has L b t
  len : Q.length ≤ L.length

theorem part_facts {L : List Ext} {lba n : Int} {i k : Nat} (hC : Chk L) (hB : Blocks lba n) (hP : PartIK L lba n i k) : PartFacts L lba n (partL L lba n i k) := by
  obtain ⟨⟨hi, h1, h2⟩, hik, hk, h3, h4⟩ := hP
  have hcl : ∀ j, i ≤ j → j < k → _ := fun j hj hjk => clip_facts (hC.may (show j < L.length by omega)) hB (h3 j hj hjk) (h2 j hj (by omega))
  refine ⟨⟨fun x hx => ?_, ?_⟩, fun x hx => ?_, fun b t => ?_, by rw [partL_length hk]; omega⟩
  · obtain ⟨j, hj, hjk, rfl⟩ := (mem_part hk).1 hx
    exact (hcl j hj hjk).1
  · unfold partL
    rw [List.pairwise_map]
    rw [List.pairwise_iff_getElem]
    intro p q hp hq hpq
    have hq' : q < k - i ∧ i + q < L.length := by
      rw [List.length_take, List.length_drop] at hq
      omega
    have e1 : ((L.drop i).take (k - i))[p] = nth ext0 L (i + p) := by rw [nth_lt (by omega)]; simp
    have e2 : ((L.drop i).take (k - i))[q] = nth ext0 L (i + q) := by rw [nth_lt (by omega)]; simp
    rw [e1, e2]
    have c1 := hcl (i + p) (by omega) (by omega)
    have c2 := hcl (i + q) (by omega) (by omega)
    have c3 := hC.lt (show i + p < i + q by omega) hq'.2
    unfold Sep
    omega
  · obtain ⟨j, hj, hjk, rfl⟩ := (mem_part hk).1 hx
    have c1 := hcl j hj hjk
    exact ⟨c1.2.2.2.2.2.1, c1.2.2.2.2.2.2⟩
  · constructor
    · rintro ⟨x, hx, hin, rfl⟩
      obtain ⟨j, hj, hjk, rfl⟩ := (mem_part hk).1 hx
      have c1 := hcl j hj hjk
      have c2 := (c1.2.1 b).1 hin
      exact ⟨c2.2, _, nth_mem (show j < L.length by omega), c2.1, (c1.2.2.1 b).symm⟩
    · rintro ⟨hb, e, he, hin, rfl⟩
      obtain ⟨j, hjl, rfl⟩ := mem_nth he
      have hin' := hin
      unfold In at hin'
      have hj : i ≤ j := by
        rcases Nat.lt_or_ge j i with h | h
        · have := h1 j h
          omega
        · exact h
      have hjk : j < k := by
        rcases Nat.lt_or_ge j k with h | h
        · exact h
        · have h5 := h4 (by omega)
          rcases Nat.lt_or_ge k j with h6 | h6
          · have h7 := hC.lt h6 hjl
            have h8 := (hC.may (show k < L.length by omega)).2.1
            omega
          · obtain rfl : j = k := by omega
            omega
      have c1 := hcl j hj hjk
      exact ⟨_, (mem_part hk).2 ⟨j, hj, hjk, rfl⟩, (c1.2.1 b).2 ⟨hin, hb⟩, c1.2.2.1 b⟩

/-! ### Gaps -/
def gapL (lb to : Int) : List Ext := if lb < to then [⟨lb, to - lb, 0, -1, 0⟩] else []
def gapGo (lb last : Int) : List Ext → List Ext
  | [] => gapL lb last
  | x :: r => gapL lb x.lba ++ gapGo (x.lba + x.n) last r

theorem gapL_has {lb to b : Int} {t : Int × Int × Int} : Has (gapL lb to) b t ↔ (lb ≤ b ∧ b < to) ∧ t = (0, -1, 0) := by
  unfold gapL
  split
  · rw [Has.one]
    unfold In tell
    simp only [if_true]
    constructor
    · rintro ⟨h, rfl⟩; exact ⟨by omega, rfl⟩
    · rintro ⟨h, rfl⟩; exact ⟨by omega, rfl⟩
  · constructor
    · intro h; exact absurd h Has.nil
    · rintro ⟨h, _⟩; omega

theorem gapL_good {lb to : Int} (h0 : 0 ≤ lb) (h1 : to ≤ 1099511627776) : Good (gapL lb to) ∧ ∀ x ∈ gapL lb to, lb ≤ x.lba ∧ x.lba + x.n ≤ to := by
  unfold gapL
  split
  · refine ⟨⟨fun x hx => ?_, List.pairwise_singleton _ _⟩, fun x hx => ?_⟩
    · rw [List.mem_singleton] at hx
      subst hx
      refine ⟨?_, ?_, ?_, ?_, ?_, .inl ⟨rfl, rfl⟩⟩ <;> (try simp only) <;> omega
    · rw [List.mem_singleton] at hx
      subst hx
      simp only
      omega
  · exact ⟨⟨fun x hx => (by cases hx), List.Pairwise.nil⟩, fun x hx => by cases hx⟩

theorem gapGo_facts : ∀ (Q : List Ext) (lb last : Int), Good Q → 0 ≤ lb → last ≤ 1099511627776 → lb ≤ last → (∀ x ∈ Q, lb ≤ x.lba ∧ x.lba + x.n ≤ last) →
    Good (gapGo lb last Q) ∧ (∀ x ∈ gapGo lb last Q, lb ≤ x.lba ∧ x.lba + x.n ≤ last) ∧ (∀ b t, Has (gapGo lb last Q) b t ↔ (lb ≤ b ∧ b < last) ∧ (∀ u, ¬ Has Q b u) ∧ t = (0, -1, 0)) ∧ (gapGo lb last Q).length ≤ Q.length + 1
  | [], lb, last, _, h0, h1, _, _ => by
    obtain ⟨g1, g2⟩ := gapL_good h0 h1
    refine ⟨g1, g2, fun b t => ?_, by simp only [gapGo, gapL]; split <;> simp⟩
    simp only [gapGo]
    rw [gapL_has]
    exact ⟨fun h => ⟨h.1, fun u hu => Has.nil hu, h.2⟩, fun h => ⟨h.1, h.2.2⟩⟩
  | x :: r, lb, last, hQ, h0, h1, h2, h3 => by
    have hx := hQ.may x (by simp)
    have hxn := hx.2.1
    have hx3 := h3 x (by simp)
    have hs := hQ.sep
    rw [List.pairwise_cons] at hs
    obtain ⟨g1, g2⟩ := gapL_good (lb := lb) (to := x.lba) h0 (by omega)
    obtain ⟨q1, q2, q3, q4⟩ := gapGo_facts r (x.lba + x.n) last ⟨fun e he => hQ.may e (by simp [he]), hs.2⟩ (by omega) h1 (by omega) fun e he => ⟨by have := hs.1 e he; unfold Sep at this; omega, (h3 e (by simp [he])).2⟩
    refine ⟨⟨fun e he => ?_, ?_⟩, fun e he => ?_, fun b t => ?_, ?_⟩
    · rcases List.mem_append.1 he with he | he
      · exact g1.may e he
      · exact q1.may e he
    · exact sep_append (c := x.lba) g1.sep q1.sep (fun e he => (g2 e he).2) (fun e he => by have := (q2 e he).1; omega)
    · rcases List.mem_append.1 he with he | he
      · have := g2 e he
        omega
      · have := q2 e he
        omega
    · simp only [gapGo]
      rw [Has.append, gapL_has, q3]
      have e1 : ∀ u, Has (x :: r) b u ↔ (In b x ∧ tell b x = u) ∨ Has r b u := fun u => by
        rw [show x :: r = [x] ++ r from rfl, Has.append, Has.one]
      simp only [e1, In]
      constructor
      · rintro (⟨h4, h5⟩ | ⟨h4, h5, h6⟩)
        · refine ⟨by omega, fun u hu => ?_, h5⟩
          rcases hu with ⟨hu, _⟩ | ⟨e, he, hi, _⟩
          · omega
          · have := hs.1 e he
            unfold Sep at this
            unfold In at hi
            omega
        · refine ⟨by omega, fun u hu => ?_, h6⟩
          rcases hu with ⟨hu, _⟩ | hu
          · omega
          · exact h5 u hu
      · rintro ⟨h4, h5, h6⟩
        rcases Int.lt_or_le b x.lba with hb | hb
        · exact .inl ⟨by omega, h6⟩
        · refine .inr ⟨⟨?_, by omega⟩, fun u hu => h5 u (.inr hu), h6⟩
          rcases Int.lt_or_le b (x.lba + x.n) with hb2 | hb2
          · exact absurd (.inl ⟨⟨hb, hb2⟩, rfl⟩) (h5 (tell b x))
          · exact hb2
    · simp only [gapGo, List.length_append, List.length_cons]
      have : (gapL lb x.lba).length ≤ 1 := by unfold gapL; split <;> simp
      omega

theorem gap_facts {L : List Ext} {lba n : Int} {Q : List Ext} (hB : Blocks lba n) (hQ : PartFacts L lba n Q) :
    Good (gapGo lba (lba + n) Q) ∧ (∀ b t, Has (gapGo lba (lba + n) Q) b t ↔ (lba ≤ b ∧ b < lba + n) ∧ (∀ u, ¬ Has L b u) ∧ t = (0, -1, 0)) ∧ (gapGo lba (lba + n) Q).length ≤ Q.length + 1 := by
  unfold Blocks at hB
  obtain ⟨g1, _, g3, g4⟩ := gapGo_facts Q lba (lba + n) hQ.good hB.1 (by omega) (by omega) hQ.low
  refine ⟨g1, fun b t => ?_, g4⟩
  rw [g3]
  constructor
  · rintro ⟨h1, h2, h3⟩
    exact ⟨h1, fun u hu => h2 u ((hQ.has b u).2 ⟨h1, hu⟩), h3⟩
  · rintro ⟨h1, h2, h3⟩
    exact ⟨h1, fun u hu => h2 u ((hQ.has b u).1 hu).2, h3⟩

/-! ### How many -/
def blks (L : List Ext) : List Int := L.flatMap fun e => (List.range e.n.toNat).map fun (j : Nat) => e.lba + (j : Int)

theorem mem_blks {L : List Ext} {b : Int} : b ∈ blks L ↔ ∃ t, Has L b t := by
  unfold blks
  rw [List.mem_flatMap]
  constructor
  · rintro ⟨e, he, hb⟩
    rw [List.mem_map] at hb
    obtain ⟨j, hj, rfl⟩ := hb
    rw [List.mem_range] at hj
    exact ⟨_, e, he, by unfold In; omega, rfl⟩
  · rintro ⟨t, e, he, hi, rfl⟩
    unfold In at hi
    refine ⟨e, he, List.mem_map.2 ⟨(b - e.lba).toNat, List.mem_range.2 (by omega), by omega⟩⟩

theorem blks_len {L : List Ext} (h : AllMay L) : ((blks L).length : Int) = sumN L := by
  induction L with
  | nil => rfl
  | cons x r ih =>
    have hx := (h x (by simp)).2.1
    have h2 := ih fun e he => h e (by simp [he])
    have h3 : (blks (x :: r)).length = x.n.toNat + (blks r).length := by simp [blks]
    rw [h3, sumN, ← h2]
    omega

theorem blks_nodup {L : List Ext} (h : Good L) : (blks L).Nodup := by
  obtain ⟨h1, h2⟩ := h
  induction L with
  | nil => exact List.nodup_nil
  | cons x r ih =>
    rw [List.pairwise_cons] at h2
    have e : blks (x :: r) = ((List.range x.n.toNat).map fun (j : Nat) => x.lba + (j : Int)) ++ blks r := rfl
    rw [e, List.nodup_append]
    refine ⟨?_, ih (fun e he => h1 e (by simp [he])) h2.2, fun a ha b hb hab => ?_⟩
    · rw [List.Nodup, List.pairwise_map]
      exact List.Pairwise.imp (fun h => by omega) List.nodup_range
    · subst hab
      rw [List.mem_map] at ha
      obtain ⟨j, hj, rfl⟩ := ha
      rw [List.mem_range] at hj
      obtain ⟨t, e, he, hi, _⟩ := mem_blks.1 hb
      have := h2.1 e he
      unfold Sep at this
      unfold In at hi
      omega

/-- Two lists that part the blocks of a third. -/
theorem sum_split {A B C : List Ext} (hA : Good A) (hB : Good B) (hC : Good C) (hd : ∀ b, (∃ t, Has A b t) → ¬ ∃ t, Has B b t) (hu : ∀ b, (∃ t, Has C b t) ↔ (∃ t, Has A b t) ∨ ∃ t, Has B b t) : sumN A + sumN B = sumN C := by
  rw [← blks_len hA.may, ← blks_len hB.may, ← blks_len hC.may]
  have hp : (blks A ++ blks B).Perm (blks C) := by
    rw [List.perm_ext_iff_of_nodup]
    · intro b
      rw [List.mem_append, mem_blks, mem_blks, mem_blks, hu]
    · rw [List.nodup_append]
      refine ⟨blks_nodup hA, blks_nodup hB, fun a ha b hb hab => ?_⟩
      subst hab
      exact hd a (mem_blks.1 ha) (mem_blks.1 hb)
    · exact blks_nodup hC
  have := hp.length_eq
  rw [List.length_append] at this
  omega

theorem sum_same {A B : List Ext} (hA : Good A) (hB : Good B) (h : ∀ b, (∃ t, Has A b t) ↔ ∃ t, Has B b t) : sumN A = sumN B := by
  have := sum_split hA ⟨(fun e he => by cases he), List.Pairwise.nil⟩ hB (fun b _ ⟨t, ht⟩ => Has.nil ht) (fun b => by
    rw [← h]
    exact ⟨fun h => .inl h, fun h => h.elim id fun ⟨t, ht⟩ => absurd ht Has.nil⟩)
  simpa [sumN] using this
end Go.Proofs
