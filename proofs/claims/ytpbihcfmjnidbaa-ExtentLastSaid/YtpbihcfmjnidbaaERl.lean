/- Extents: what is put where parts were; plain. -/
import Derived.Test.YtpbihcfmjnidbaaEP
namespace Go.Proofs
set_option linter.unusedVariables false
set_option linter.unusedSimpArgs false
open Go Go.SX Go.RowKit

theorem PutsTo.has_good {L es M : List Ext} (h : PutsTo L es M) (hL : Chk L) (hes : Good es) (b : Int) (t : Int × Int × Int) :
    Has M b t ↔ Has es b t ∨ ((∀ u, ¬ Has es b u) ∧ Has L b t) := by
  rw [h.has hL hes.may]
  cases hf : es.reverse.find? (hasB b) with
  | none =>
    have hno : ∀ u, ¬ Has es b u := fun u ⟨e, he, hi, _⟩ => by
      rw [List.find?_eq_none] at hf
      have := hf e (by simp [he])
      simp [hasB] at this
      unfold In at hi
      omega
    exact ⟨fun h => .inr ⟨hno, h⟩, fun h => h.elim (fun h => absurd h (hno t)) fun h => h.2⟩
  | some e =>
    have h1 := List.mem_of_find?_eq_some hf
    have h2 := List.find?_some hf
    simp only [hasB, decide_eq_true_eq] at h2
    rw [List.mem_reverse] at h1
    have h3 : Has es b (tell b e) := ⟨e, h1, h2, rfl⟩
    constructor
    · rintro rfl; exact .inl h3
    · rintro (h | ⟨h, _⟩)
      · exact Has.uniq hes.sep h h3
      · exact absurd h3 (h _)

theorem join_norm {A B : List Ext} (hA : Chk A) (hB : Chk B) (h : ∀ b t, Has A b t ↔ Has B b t) : joinE A = joinE B := by
  obtain ⟨a1, a2, a3⟩ := join_good hA
  obtain ⟨b1, b2, b3⟩ := join_good hB
  exact norm_uniq _ _ a1 b1 a2 b2 fun b t => (a3 b t).trans ((h b t).trans (b3 b t).symm)

theorem join_join {A : List Ext} (hA : Chk A) : joinE (joinE A) = joinE A := by
  obtain ⟨a1, a2, a3⟩ := join_good hA
  exact (join_norm a1.chk hA a3)

theorem sum_join {A : List Ext} (hA : Chk A) : sumN (joinE A) = sumN A := by
  obtain ⟨a1, a2, a3⟩ := join_good hA
  exact sum_same a1 hA.good fun b => ⟨fun ⟨t, h⟩ => ⟨t, (a3 b t).1 h⟩, fun ⟨t, h⟩ => ⟨t, (a3 b t).2 h⟩⟩

theorem blocks_good {lba n : Int} (hB : Blocks lba n) : Good [⟨lba, n, 0, -1, 0⟩] := by
  unfold Blocks at hB
  refine ⟨fun x hx => ?_, List.pairwise_singleton _ _⟩
  rw [List.mem_singleton] at hx
  subst hx
  refine ⟨?_, ?_, ?_, ?_, ?_, .inl ⟨rfl, rfl⟩⟩ <;> (try simp only) <;> omega

structure AllParts (L : List Ext) (lba n : Int) (Q G C : List Ext) : Prop where
  q : PartFacts L lba n Q
  g : Good G
  gh : ∀ b t, Has G b t ↔ (lba ≤ b ∧ b < lba + n) ∧ (∀ u, ¬ Has L b u) ∧ t = (0, -1, 0)
  gl : G.length ≤ 301
  c : Chk C
  ch : ∀ b t, Has C b t ↔ ¬ (lba ≤ b ∧ b < lba + n) ∧ Has L b t
  cl : C.length ≤ 302
  ql : Q.length ≤ 300

theorem allParts {L : List Ext} {lba n : Int} (hC : Chk L) (hn : L.length ≤ 300) (hB : Blocks lba n) {i1 k1 i2 k2 i3 k3 : Nat} (h1 : PartIK L lba n i1 k1) (h2 : PartIK L lba n i2 k2) (h3 : PartIK L lba n i3 k3) :
    AllParts L lba n (partL L lba n i1 k1) (gapGo lba (lba + n) (partL L lba n i2 k2)) (replL L lba n [] i3 k3) := by
  have p1 := part_facts hC hB h1
  have p2 := part_facts hC hB h2
  obtain ⟨g1, g2, g3⟩ := gap_facts hB p2
  have hl1 := p1.len
  have hl2 := p2.len
  have hl3 := repl_len h3 (.inl rfl : With lba n [])
  refine ⟨p1, g1, g2, by omega, repl_chk hC hB h3 (.inl rfl), fun b t => ?_, by omega, by omega⟩
  rw [repl_has hC h3 (.inl rfl)]
  exact ⟨fun h => h.elim (fun h => absurd h.2.2 Has.nil) id, .inr⟩

theorem AllParts.sum1 {L Q G C : List Ext} {lba n : Int} (h : AllParts L lba n Q G C) (hB : Blocks lba n) : sumN Q + sumN G = n := by
  have := sum_split h.q.good h.g (blocks_good hB) (fun b ⟨t, ht⟩ ⟨u, hu⟩ => ((h.gh b u).1 hu).2.1 t ((h.q.has b t).1 ht).2) (fun b => by
    constructor
    · rintro ⟨t, ht⟩
      rw [Has.one] at ht
      have hr : lba ≤ b ∧ b < lba + n := ht.1
      by_cases hh : ∃ u, Has L b u
      · obtain ⟨u, hu⟩ := hh
        exact .inl ⟨u, (h.q.has b u).2 ⟨hr, hu⟩⟩
      · exact .inr ⟨_, (h.gh b _).2 ⟨hr, fun u hu => hh ⟨u, hu⟩, rfl⟩⟩
    · rintro (⟨t, ht⟩ | ⟨t, ht⟩)
      · exact ⟨_, Has.one.2 ⟨((h.q.has b t).1 ht).1, rfl⟩⟩
      · exact ⟨_, Has.one.2 ⟨((h.gh b t).1 ht).1, rfl⟩⟩)
  simpa [sumN] using this

theorem AllParts.sum2 {L Q G C : List Ext} {lba n : Int} (h : AllParts L lba n Q G C) (hC : Chk L) : sumN C + sumN Q = sumN L :=
  sum_split h.c.good h.q.good hC.good (fun b ⟨t, ht⟩ ⟨u, hu⟩ => ((h.ch b t).1 ht).1 ((h.q.has b u).1 hu).1) (fun b => by
    constructor
    · rintro ⟨t, ht⟩
      by_cases hr : lba ≤ b ∧ b < lba + n
      · exact .inr ⟨t, (h.q.has b t).2 ⟨hr, ht⟩⟩
      · exact .inl ⟨t, (h.ch b t).2 ⟨hr, ht⟩⟩
    · rintro (⟨t, ht⟩ | ⟨t, ht⟩)
      · exact ⟨t, ((h.ch b t).1 ht).2⟩
      · exact ⟨t, ((h.q.has b t).1 ht).2⟩)

/-- Put back, the list is as it was. -/
theorem AllParts.back {L Q G C M : List Ext} {lba n : Int} (h : AllParts L lba n Q G C) (hC : Chk L) (hM : PutsTo C Q M) : Chk M ∧ joinE (joinE M) = joinE L ∧ M.length ≤ 1000 := by
  obtain ⟨h1, h2⟩ := hM.good h.c h.q.good.may
  have hcl := h.cl
  have hql := h.ql
  refine ⟨h1, ?_, by omega⟩
  rw [join_join h1]
  refine join_norm h1 hC fun b t => ?_
  rw [hM.has_good h.c h.q.good, h.q.has, h.ch]
  constructor
  · rintro (⟨_, h⟩ | ⟨_, _, h⟩) <;> exact h
  · intro ht
    by_cases hr : lba ≤ b ∧ b < lba + n
    · exact .inl ⟨hr, ht⟩
    · exact .inr ⟨fun u hu => hr ((h.q.has b u).1 hu).1, hr, ht⟩

/-- Parts and gaps are all. -/
theorem AllParts.whole {L Q G C M : List Ext} {lba n : Int} (h : AllParts L lba n Q G C) (hB : Blocks lba n) (hM : PutsTo G Q M) : Chk M ∧ sumN (joinE M) = n ∧ M.length ≤ 1000 := by
  obtain ⟨h1, h2⟩ := hM.good h.g.chk h.q.good.may
  have hgl := h.gl
  have hql := h.ql
  refine ⟨h1, ?_, by omega⟩
  rw [sum_join h1]
  have := sum_same h1.good (blocks_good hB) (fun b => by
    constructor
    · rintro ⟨t, ht⟩
      rw [hM.has_good h.g.chk h.q.good, h.q.has, h.gh] at ht
      rcases ht with ⟨hr, _⟩ | ⟨_, hr, _⟩
      · exact ⟨_, Has.one.2 ⟨hr, rfl⟩⟩
      · exact ⟨_, Has.one.2 ⟨hr, rfl⟩⟩
    · rintro ⟨t, ht⟩
      rw [Has.one] at ht
      have hr : lba ≤ b ∧ b < lba + n := ht.1
      by_cases hh : ∃ u, Has L b u
      · obtain ⟨u, hu⟩ := hh
        exact ⟨u, (hM.has_good h.g.chk h.q.good b u).2 (.inl ((h.q.has b u).2 ⟨hr, hu⟩))⟩
      · exact ⟨_, (hM.has_good h.g.chk h.q.good b _).2 (.inr ⟨fun u hu => hh ⟨u, ((h.q.has b u).1 hu).2⟩, (h.gh b _).2 ⟨hr, fun u hu => hh ⟨u, hu⟩, rfl⟩⟩)⟩)
  simpa [sumN] using this
end Go.Proofs
