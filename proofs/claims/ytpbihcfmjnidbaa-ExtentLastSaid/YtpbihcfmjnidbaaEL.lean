/- Extents: what lists tell of blocks; plain. -/
import Derived.Test.YtpbihcfmjnidbaaEI
namespace Go.Proofs
set_option linter.unusedVariables false
set_option linter.unusedSimpArgs false
open Go Go.SX Go.RowKit

def Sep (a b : Ext) : Prop := a.lba + a.n ≤ b.lba

theorem ChkFrom.mk {last : Int} {L : List Ext} (h1 : AllMay L) (h2 : L.Pairwise Sep) (h3 : ∀ e ∈ L, last ≤ e.lba) : ChkFrom last L := by
  induction L generalizing last with
  | nil => trivial
  | cons x r ih =>
    rw [List.pairwise_cons] at h2
    exact ⟨h1 x (by simp), h3 x (by simp), ih (fun e he => h1 e (by simp [he])) h2.2 h2.1⟩
theorem Chk.mk {L : List Ext} (h1 : AllMay L) (h2 : L.Pairwise Sep) : Chk L := ChkFrom.mk h1 h2 fun e he => (h1 e he).1
theorem Chk.all {L : List Ext} (h : Chk L) : AllMay L := ChkFrom.may h
theorem Chk.sep {L : List Ext} (h : Chk L) : L.Pairwise Sep := ChkFrom.pair h

/-- What an extent tells of one of its blocks. -/
def tell (b : Int) (e : Ext) : Int × Int × Int := (e.ver, e.zone, if e.zone = -1 then e.off else e.off + 16 * (b - e.lba))
def In (b : Int) (e : Ext) : Prop := e.lba ≤ b ∧ b < e.lba + e.n
/-- A list tells something of a block. -/
def Has (L : List Ext) (b : Int) (t : Int × Int × Int) : Prop := ∃ e ∈ L, In b e ∧ tell b e = t

theorem Has.uniq {L : List Ext} (h : L.Pairwise Sep) {b : Int} {t u : Int × Int × Int} (h1 : Has L b t) (h2 : Has L b u) : t = u := by
  induction L with
  | nil => obtain ⟨e, he, _⟩ := h1; cases he
  | cons x r ih =>
    rw [List.pairwise_cons] at h
    obtain ⟨e, he, hi, rfl⟩ := h1
    obtain ⟨f, hf, hj, rfl⟩ := h2
    rcases List.mem_cons.1 he with rfl | he1 <;> rcases List.mem_cons.1 hf with rfl | hf1
    · rfl
    · have := h.1 f hf1
      unfold Sep at this
      unfold In at hi hj
      omega
    · have := h.1 e he1
      unfold Sep at this
      unfold In at hi hj
      omega
    · exact ih h.2 ⟨e, he1, hi, rfl⟩ ⟨f, hf1, hj, rfl⟩

theorem Has.append {L M : List Ext} {b : Int} {t : Int × Int × Int} : Has (L ++ M) b t ↔ Has L b t ∨ Has M b t := by
  unfold Has
  constructor
  · rintro ⟨e, he, h⟩
    rcases List.mem_append.1 he with he | he
    · exact .inl ⟨e, he, h⟩
    · exact .inr ⟨e, he, h⟩
  · rintro (⟨e, he, h⟩ | ⟨e, he, h⟩)
    · exact ⟨e, List.mem_append.2 (.inl he), h⟩
    · exact ⟨e, List.mem_append.2 (.inr he), h⟩
theorem Has.nil {b : Int} {t : Int × Int × Int} : ¬ Has [] b t := fun ⟨_, h, _⟩ => by cases h
theorem Has.one {e : Ext} {b : Int} {t : Int × Int × Int} : Has [e] b t ↔ In b e ∧ tell b e = t := by
  unfold Has
  simp

/-- What is told of a block, if anything. -/
def blk (L : List Ext) (b : Int) : Option (Int × Int × Int) := (L.find? (hasB b)).map (tell b)

theorem blk_has {L : List Ext} (h : L.Pairwise Sep) {b : Int} {t : Int × Int × Int} : blk L b = some t ↔ Has L b t := by
  constructor
  · intro hb
    unfold blk at hb
    rw [Option.map_eq_some_iff] at hb
    obtain ⟨e, he, rfl⟩ := hb
    have h1 := List.mem_of_find?_eq_some he
    have h2 := List.find?_some he
    simp only [hasB, decide_eq_true_eq] at h2
    exact ⟨e, h1, h2, rfl⟩
  · rintro ⟨e, he, hi, rfl⟩
    unfold blk
    have : (L.find? (hasB b)).isSome = true := by
      rw [List.find?_isSome]
      exact ⟨e, he, by simpa [hasB, In] using hi⟩
    obtain ⟨f, hf⟩ := Option.isSome_iff_exists.1 this
    rw [hf, Option.map_some]
    have h1 := List.mem_of_find?_eq_some hf
    have h2 := List.find?_some hf
    simp only [hasB, decide_eq_true_eq] at h2
    exact congrArg some (Has.uniq h ⟨f, h1, h2, rfl⟩ ⟨e, he, hi, rfl⟩)

theorem blk_ext {L M : List Ext} (hL : L.Pairwise Sep) (hM : M.Pairwise Sep) {b c : Int} (h : ∀ t, Has L b t ↔ Has M c t) : blk L b = blk M c := by
  apply Option.ext
  intro t
  rw [blk_has hL, blk_has hM, h]

theorem blk_none {L : List Ext} (h : L.Pairwise Sep) {b : Int} : blk L b = none ↔ ∀ t, ¬ Has L b t := by
  constructor
  · intro hb t ht
    rw [(blk_has h).2 ht] at hb
    cases hb
  · intro hb
    cases hx : blk L b with
    | none => rfl
    | some t => exact absurd ((blk_has h).1 hx) (hb t)

def tellB (r : Option (Int × Int × Int)) : List SV := match r with
  | none => [.v (.bool false), .v (.int .i64 0), .v (.int .i64 0), .v (.int .i64 0)]
  | some x => [.v (.bool true), .v (.int .i64 x.1), .v (.int .i64 x.2.1), .v (.int .i64 x.2.2)]

theorem clip_tell {e : Ext} {b : Int} (h : In b e) : (clipE b 1 e).ver = (tell b e).1 ∧ (clipE b 1 e).zone = (tell b e).2.1 ∧ (clipE b 1 e).off = (tell b e).2.2 := by
  unfold In at h
  unfold clipE uptoE fromE tell
  split
  · refine ⟨rfl, rfl, ?_⟩
    simp only
    split <;> omega
  · have : b = e.lba := by omega
    refine ⟨rfl, rfl, ?_⟩
    simp only
    split <;> omega

theorem In.blocks {e : Ext} {b : Int} (h : In b e) (hM : May e) : Blocks b 1 := by
  unfold In at h
  unfold May at hM
  unfold Blocks
  omega

theorem tellC_blk {L : List Ext} (hC : Chk L) (b : Int) : tellC (atE L b) = tellB (blk L b) := by
  unfold atE blk
  cases hf : L.find? (hasB b) with
  | none => split <;> rfl
  | some e =>
    have h1 := List.mem_of_find?_eq_some hf
    have h2 := List.find?_some hf
    simp only [hasB, decide_eq_true_eq] at h2
    have hB : Blocks b 1 := In.blocks h2 (hC.all e h1)
    rw [if_pos ⟨hC, hB⟩]
    obtain ⟨e1, e2, e3⟩ := clip_tell h2
    simp only [Option.map_some, tellC, tellB, e1, e2, e3]

theorem atE_some {L : List Ext} (hC : Chk L) (b : Int) : (atE L b).isSome = (blk L b).isSome := by
  unfold atE blk
  cases hf : L.find? (hasB b) with
  | none => split <;> rfl
  | some e =>
    have h1 := List.mem_of_find?_eq_some hf
    have h2 := List.find?_some hf
    simp only [hasB, decide_eq_true_eq] at h2
    have hB : Blocks b 1 := In.blocks h2 (hC.all e h1)
    rw [if_pos ⟨hC, hB⟩]
    rfl

/-! ### Blocks replaced -/
theorem mem_take_nth {L : List Ext} {i : Nat} {e : Ext} (h : e ∈ L.take i) : ∃ j, j < i ∧ j < L.length ∧ nth ext0 L j = e := by
  obtain ⟨j, hj, rfl⟩ := List.mem_iff_getElem.1 h
  have hj' : j < i ∧ j < L.length := by rw [List.length_take] at hj; omega
  exact ⟨j, hj'.1, hj'.2, by rw [nth_lt hj'.2]; simp⟩
theorem mem_drop_nth {L : List Ext} {k : Nat} {e : Ext} (h : e ∈ L.drop k) : ∃ j, k ≤ j ∧ j < L.length ∧ nth ext0 L j = e := by
  obtain ⟨j, hj, rfl⟩ := List.mem_iff_getElem.1 h
  simp at hj
  exact ⟨k + j, by omega, by omega, by rw [nth_lt (by omega)]; simp⟩
theorem mem_nth {L : List Ext} {e : Ext} (h : e ∈ L) : ∃ j, j < L.length ∧ nth ext0 L j = e := by
  obtain ⟨j, hj, rfl⟩ := List.mem_iff_getElem.1 h
  exact ⟨j, hj, nth_lt hj⟩
theorem nth_take_mem {L : List Ext} {i j : Nat} (h : j < i) (hj : j < L.length) : nth ext0 L j ∈ L.take i := by
  rw [nth_lt hj]
  exact List.mem_iff_getElem.2 ⟨j, by simp; omega, by simp⟩
theorem nth_drop_mem {L : List Ext} {k j : Nat} (h : k ≤ j) (hj : j < L.length) : nth ext0 L j ∈ L.drop k := by
  rw [nth_lt hj]
  exact List.mem_iff_getElem.2 ⟨j - k, by simp; omega, by simp; congr 1; omega⟩

/-- What some blocks are replaced with: nothing, or one extent of just these blocks. -/
def With (lba n : Int) (W : List Ext) : Prop := W = [] ∨ ∃ e, W = [e] ∧ May e ∧ e.lba = lba ∧ e.n = n

structure ReplParts (L : List Ext) (lba n : Int) (W : List Ext) (i k : Nat) : Prop where
  t1 : ∀ e ∈ L.take i, e ∈ L ∧ e.lba + e.n ≤ lba
  l1 : ∀ e ∈ lft L lba i k, ∃ x ∈ L, e = uptoE x lba ∧ x.lba < lba ∧ lba < x.lba + x.n ∧ i < L.length ∧ x = nth ext0 L i
  w1 : ∀ e ∈ W, May e ∧ e.lba = lba ∧ e.n = n
  r1 : ∀ e ∈ rgt L lba n i k, ∃ x ∈ L, e = fromE x (lba + n) ∧ x.lba < lba + n ∧ lba + n < x.lba + x.n ∧ x = nth ext0 L (k - 1)
  d1 : ∀ e ∈ L.drop k, e ∈ L ∧ lba + n ≤ e.lba

theorem replParts {L W : List Ext} {lba n : Int} {i k : Nat} (hC : Chk L) (hP : PartIK L lba n i k) (hW : With lba n W) : ReplParts L lba n W i k := by
  obtain ⟨⟨hi, h1, h2⟩, hik, hk, h3, h4⟩ := hP
  refine ⟨fun e he => ?_, fun e he => ?_, fun e he => ?_, fun e he => ?_, fun e he => ?_⟩
  · obtain ⟨j, hj, hjl, rfl⟩ := mem_take_nth he
    exact ⟨nth_mem hjl, h1 j hj⟩
  · unfold lft at he
    split at he
    · rename_i hc
      rw [List.mem_singleton] at he
      subst he
      exact ⟨_, nth_mem (by omega), rfl, hc.2, h2 i (by omega) (by omega), by omega, rfl⟩
    · cases he
  · rcases hW with rfl | ⟨x, rfl, hM, hl, hn⟩
    · cases he
    · rw [List.mem_singleton] at he
      subst he
      exact ⟨hM, hl, hn⟩
  · unfold rgt at he
    split at he
    · rename_i hc
      rw [List.mem_singleton] at he
      subst he
      exact ⟨_, nth_mem (by omega), rfl, h3 (k - 1) (by omega) (by omega), hc.2, rfl⟩
    · cases he
  · obtain ⟨j, hj, hjl, rfl⟩ := mem_drop_nth he
    refine ⟨nth_mem hjl, ?_⟩
    have h5 := h4 (by omega)
    rcases Nat.lt_or_ge k j with h6 | h6
    · have h7 := hC.lt h6 hjl
      have h8 := (hC.may (show k < L.length by omega)).2.1
      omega
    · obtain rfl : j = k := by omega
      exact h5

theorem upto_may {x : Ext} {l : Int} (h : May x) (h1 : x.lba < l) : May (uptoE x l) := by
  unfold May at h ⊢
  unfold uptoE
  simp only
  split <;> omega
theorem from_may {x : Ext} {l : Int} (h : May x) (h2 : l < x.lba + x.n) : May (fromE x l) := by
  unfold May at h ⊢
  unfold fromE
  split
  · simp only
    split <;> omega
  · exact h
theorem upto_end {x : Ext} {l : Int} (h2 : l < x.lba + x.n) : (uptoE x l).lba = x.lba ∧ (uptoE x l).lba + (uptoE x l).n = l := by
  refine ⟨rfl, ?_⟩
  unfold uptoE
  simp only
  split <;> omega
theorem from_end {x : Ext} {l : Int} (h1 : x.lba < l) : (fromE x l).lba = l ∧ (fromE x l).lba + (fromE x l).n = x.lba + x.n := by
  unfold fromE
  rw [if_pos (by omega)]
  refine ⟨rfl, ?_⟩
  simp only
  omega

theorem sep_append {A B : List Ext} {c : Int} (hA : A.Pairwise Sep) (hB : B.Pairwise Sep) (h1 : ∀ e ∈ A, e.lba + e.n ≤ c) (h2 : ∀ e ∈ B, c ≤ e.lba) : (A ++ B).Pairwise Sep := by
  rw [List.pairwise_append]
  refine ⟨hA, hB, fun a ha b hb => ?_⟩
  have := h1 a ha
  have := h2 b hb
  unfold Sep
  omega

theorem sep_le1 {A : List Ext} (h : A.length ≤ 1) : A.Pairwise Sep := by
  match A, h with
  | [], _ => exact List.Pairwise.nil
  | [x], _ => exact List.pairwise_singleton _ _

theorem repl_chk {L W : List Ext} {lba n : Int} {i k : Nat} (hC : Chk L) (hB : Blocks lba n) (hP : PartIK L lba n i k) (hW : With lba n W) : Chk (replL L lba n W i k) := by
  have hR := replParts hC hP hW
  have hn : 0 < n := hB.2.1
  refine Chk.mk (fun e he => ?_) ?_
  · simp only [replL, List.mem_append] at he
    rcases he with ((he | he | he | he) | he)
    · exact hC.all e (hR.t1 e he).1
    · obtain ⟨x, hx, rfl, h1, h2, _⟩ := hR.l1 e he
      exact upto_may (hC.all x hx) h1
    · exact (hR.w1 e he).1
    · obtain ⟨x, hx, rfl, h1, h2, _⟩ := hR.r1 e he
      exact from_may (hC.all x hx) h2
    · exact hC.all e (hR.d1 e he).1
  · have s0 : (L.take i).Pairwise Sep := hC.sep.sublist (List.take_sublist _ _)
    have s4 : (L.drop k).Pairwise Sep := hC.sep.sublist (List.drop_sublist _ _)
    have s1 : (lft L lba i k).Pairwise Sep := sep_le1 lft_len
    have s2 : W.Pairwise Sep := by
      rcases hW with rfl | ⟨x, rfl, _⟩
      · exact List.Pairwise.nil
      · exact List.pairwise_singleton _ _
    have s3 : (rgt L lba n i k).Pairwise Sep := sep_le1 rgt_len
    have e1 : ∀ e ∈ lft L lba i k, e.lba + e.n ≤ lba := fun e he => by
      obtain ⟨x, hx, rfl, h1, h2, _⟩ := hR.l1 e he
      have := upto_end h2
      omega
    have e3 : ∀ e ∈ rgt L lba n i k, lba + n ≤ e.lba := fun e he => by
      obtain ⟨x, hx, rfl, h1, h2, _⟩ := hR.r1 e he
      have := from_end h1
      omega
    have p3 : (W ++ rgt L lba n i k).Pairwise Sep := sep_append (c := lba + n) s2 s3 (fun e he => by
      have := (hR.w1 e he).2
      omega) e3
    have p2 : (lft L lba i k ++ (W ++ rgt L lba n i k)).Pairwise Sep := sep_append (c := lba) s1 p3 e1 (fun e he => by
      rcases List.mem_append.1 he with he | he
      · have := (hR.w1 e he).2
        omega
      · have := e3 e he
        omega)
    have p1 : (L.take i ++ (lft L lba i k ++ (W ++ rgt L lba n i k))).Pairwise Sep := by
      rw [List.pairwise_append]
      refine ⟨s0, p2, fun a ha b hb => ?_⟩
      have h1 := (hR.t1 a ha).2
      unfold Sep
      rcases List.mem_append.1 hb with hb | hb
      · obtain ⟨x, hx, rfl, h3, h4, h5, rfl⟩ := hR.l1 b hb
        obtain ⟨j, hj, hjl, rfl⟩ := mem_take_nth ha
        have := hC.lt hj h5
        have := (upto_end h4).1
        omega
      · rcases List.mem_append.1 hb with hb | hb
        · have := (hR.w1 b hb).2
          omega
        · have := e3 b hb
          omega
    unfold replL
    rw [List.pairwise_append]
    refine ⟨p1, s4, fun a ha b hb => ?_⟩
    have h9 := (hR.d1 b hb).2
    unfold Sep
    simp only [List.mem_append] at ha
    rcases ha with (ha | ha | ha | ha)
    · have := (hR.t1 a ha).2
      omega
    · have := e1 a ha
      omega
    · have := (hR.w1 a ha).2
      omega
    · obtain ⟨x, hx, rfl, h3, h4, rfl⟩ := hR.r1 a ha
      obtain ⟨j, hj, hjl, rfl⟩ := mem_drop_nth hb
      have h5 := (from_end h3).2
      have hk1 : 0 < k := by
        unfold rgt at ha
        split at ha
        · rename_i hc
          omega
        · cases ha
      have := hC.lt (i := k - 1) (j := j) (by omega) hjl
      omega

theorem repl_len {L W : List Ext} {lba n : Int} {i k : Nat} (hP : PartIK L lba n i k) (hW : With lba n W) : (replL L lba n W i k).length ≤ L.length + 2 := by
  obtain ⟨⟨hi, h1, h2⟩, hik, hk, h3, h4⟩ := hP
  have hw : W.length ≤ 1 := by rcases hW with rfl | ⟨x, rfl, _⟩ <;> simp
  have hl1 := lft_len (L := L) (lba := lba) (i := i) (k := k)
  have hl2 := rgt_len (L := L) (lba := lba) (n := n) (i := i) (k := k)
  rcases Nat.lt_or_ge i k with h | h
  · simp only [replL, List.length_append, List.length_take, List.length_drop]
    omega
  · have e1 : lft L lba i k = [] := by rw [lft, if_neg fun hc => by omega]
    have e2 : rgt L lba n i k = [] := by rw [rgt, if_neg fun hc => by omega]
    simp only [replL, e1, e2, List.length_append, List.length_take, List.length_drop, List.length_nil]
    omega

theorem upto_in {x : Ext} {l b : Int} (h2 : l < x.lba + x.n) : In b (uptoE x l) ↔ In b x ∧ b < l := by
  have := upto_end h2
  unfold In
  omega
theorem from_in {x : Ext} {l b : Int} (h1 : x.lba < l) : In b (fromE x l) ↔ In b x ∧ l ≤ b := by
  have := from_end h1
  unfold In
  omega
theorem upto_tell {x : Ext} {l b : Int} : tell b (uptoE x l) = tell b x := rfl
theorem from_tell {x : Ext} {l b : Int} : tell b (fromE x l) = tell b x := by
  unfold fromE
  split
  · unfold tell
    simp only
    split <;> simp_all
    omega
  · rfl

theorem repl_has {L W : List Ext} {lba n : Int} {i k : Nat} (hC : Chk L) (hP : PartIK L lba n i k) (hW : With lba n W) (b : Int) (t : Int × Int × Int) :
    Has (replL L lba n W i k) b t ↔ (lba ≤ b ∧ b < lba + n ∧ Has W b t) ∨ (¬ (lba ≤ b ∧ b < lba + n) ∧ Has L b t) := by
  have hR := replParts hC hP hW
  constructor
  · rintro ⟨e, he, hi, rfl⟩
    simp only [replL, List.mem_append] at he
    rcases he with ((he | he | he | he) | he)
    · have := hR.t1 e he
      exact .inr ⟨by unfold In at hi; omega, e, this.1, hi, rfl⟩
    · obtain ⟨x, hx, rfl, h1, h2, _⟩ := hR.l1 e he
      rw [upto_in h2] at hi
      exact .inr ⟨by omega, x, hx, hi.1, rfl⟩
    · have := hR.w1 e he
      exact .inl ⟨by unfold In at hi; omega, by unfold In at hi; omega, e, he, hi, rfl⟩
    · obtain ⟨x, hx, rfl, h1, h2, _⟩ := hR.r1 e he
      rw [from_in h1] at hi
      exact .inr ⟨by omega, x, hx, hi.1, from_tell.symm⟩
    · have := hR.d1 e he
      exact .inr ⟨by unfold In at hi; omega, e, this.1, hi, rfl⟩
  · rintro (⟨h1, h2, e, he, hi, rfl⟩ | ⟨hno, e, he, hi, rfl⟩)
    · exact ⟨e, by simp [replL, he], hi, rfl⟩
    · obtain ⟨j, hjl, rfl⟩ := mem_nth he
      obtain ⟨⟨hil, h1, h2⟩, hik, hk, h3, h4⟩ := hP
      rcases Nat.lt_or_ge j i with hj | hj
      · exact ⟨_, by simp only [replL, List.mem_append]; exact .inl (.inl (nth_take_mem hj hjl)), hi, rfl⟩
      rcases Nat.lt_or_ge j k with hjk | hjk
      · have g1 := h2 j hj hjl
        have g2 := h3 j hj hjk
        have hi' := hi
        unfold In at hi'
        rcases Int.lt_or_le b lba with hb | hb
        · have hji : j = i := by
            rcases Nat.lt_or_ge i j with h | h
            · have := hC.lt h hjl
              have := h2 i (by omega) (by omega)
              omega
            · omega
          subst hji
          refine ⟨uptoE (nth ext0 L j) lba, ?_, (upto_in g1).2 ⟨hi, hb⟩, upto_tell⟩
          simp only [replL, List.mem_append]
          refine .inl (.inr (.inl ?_))
          rw [lft, if_pos ⟨hjk, by omega⟩]
          simp
        · have hjk1 : j = k - 1 := by
            rcases Nat.lt_or_ge j (k - 1) with h | h
            · have := hC.lt h (show k - 1 < L.length by omega)
              have := h3 (k - 1) (by omega) (by omega)
              omega
            · omega
          refine ⟨fromE (nth ext0 L j) (lba + n), ?_, (from_in g2).2 ⟨hi, by omega⟩, from_tell⟩
          simp only [replL, List.mem_append]
          refine .inl (.inr (.inr (.inr ?_)))
          rw [rgt, ← hjk1, if_pos ⟨by omega, by omega⟩]
          simp
      · exact ⟨_, by simp only [replL, List.mem_append]; exact .inr (nth_drop_mem hjk hjl), hi, rfl⟩
end Go.Proofs
