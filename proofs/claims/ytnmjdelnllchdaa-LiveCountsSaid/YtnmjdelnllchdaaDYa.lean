/- Live: plain law of what zones have. -/
import Derived.Test.YtnmjdelnllchdaaDVe
import Derived.Test.YtnmjdelnllchdaaDXe
namespace Go.Proofs
set_option linter.unusedVariables false
set_option linter.unusedSimpArgs false
set_option linter.unusedSectionVars false
open Go Go.SX Go.RowKit

theorem sumN_append (L M : List Ext) : sumN (L ++ M) = sumN L + sumN M := by
  induction L with
  | nil => simp [sumN]
  | cons x r ih => simp only [List.cons_append, sumN, ih]; omega
theorem sumN_step {L : List Ext} {k : Nat} {x : Ext} (h : k < L.length) (hx : nth ext0 L k = x) : sumN (L.take (k + 1)) = sumN (L.take k) + x.n := by
  rw [take_nth (d := ext0) h, hx, sumN_append]
  simp [sumN]
theorem sumN_perm {L M : List Ext} (h : L.Perm M) : sumN L = sumN M := by
  induction h with
  | nil => rfl
  | cons x _ ih => simp only [sumN, ih]
  | swap x y l => simp only [sumN]; omega
  | trans _ _ h1 h2 => exact h1.trans h2
theorem sumN_bound {L : List Ext} (h : ∀ e ∈ L, May e) : 0 ≤ sumN L ∧ sumN L ≤ 1099511627776 * (L.length : Int) := by
  induction L with
  | nil => simp [sumN]
  | cons x r ih =>
    obtain ⟨h1, h2⟩ := ih fun e he => h e (List.mem_cons_of_mem _ he)
    have hx := h x List.mem_cons_self
    unfold May at hx
    simp only [sumN, List.length_cons]
    omega
theorem sumN_in (L : List Ext) (z : Nat) : sumN (InL L z) = cntE L z := by
  unfold InL keepL
  induction L with
  | nil => rfl
  | cons x r ih =>
    by_cases h : x.zone = (z : Int)
    · simp only [List.filter_cons, h, ne_eq, not_true_eq_false, decide_false, Bool.not_false, if_true, sumN, cntE, ih]
    · simp only [List.filter_cons, h, ne_eq, not_false_eq_true, decide_true, Bool.not_true, Bool.false_eq_true, if_false, cntE, ih]
      omega

theorem mem_in {L M : List Ext} {z : Int} (h : M.Perm (InL L z)) {e : Ext} (he : e ∈ M) : e ∈ L ∧ e.zone = z := by
  have h1 := h.mem_iff.1 he
  unfold InL keepL at h1
  simpa using h1
theorem len_in {L M : List Ext} {z : Int} (h : M.Perm (InL L z)) : M.length ≤ L.length := by
  rw [h.length_eq]
  exact keepL_len _ _

theorem chk_nodup {L : List Ext} (h : Chk L) : (L.map (·.lba)).Nodup := by
  have h1 := ChkFrom.pair h
  rw [List.Nodup, List.pairwise_map]
  refine (List.Pairwise.and_mem.1 h1).imp fun {a b} hab => ?_
  obtain ⟨ha, hb, h2⟩ := hab
  have h3 := (Chk.may h a ha).2.1
  omega
theorem in_nodup {L M : List Ext} {z : Int} (hC : Chk L) (h : M.Perm (InL L z)) : (M.map (·.lba)).Nodup := by
  have h1 : ((InL L z).map (·.lba)).Nodup := (chk_nodup hC).sublist (List.Sublist.map _ (List.filter_sublist))
  exact ((h.map (·.lba)).nodup_iff).2 h1

/-- In a zone, sorted: off first, then lba, no two alike. -/
theorem in_lt {L M : List Ext} {z : Int} (hC : Chk L) (h : M.Perm (InL L z)) (hs : SrtE M) {j : Nat} (h0 : 0 < j) (hj : j < M.length) :
    (nth ext0 M (j - 1)).off < (nth ext0 M j).off ∨ ((nth ext0 M (j - 1)).off = (nth ext0 M j).off ∧ (nth ext0 M (j - 1)).lba < (nth ext0 M j).lba) := by
  have h1 := hs (j - 1) j (by omega) hj
  have h2 : (nth ext0 M (j - 1)).lba ≠ (nth ext0 M j).lba := by
    intro he
    have h3 := in_nodup hC h
    have e : ∀ k, (hk : k < M.length) → (M.map (·.lba))[k]? = some (nth ext0 M k).lba := fun k hk => by
      rw [List.getElem?_map, nth_lt hk, List.getElem?_eq_getElem hk]
      rfl
    have h4 := (List.getElem?_inj (i := j - 1) (j := j) (by simpa using by omega) h3).1 (by rw [e _ (by omega), e _ hj, he])
    omega
  unfold LeE at h1
  omega

theorem at_own {L : List Ext} (hC : Chk L) {e : Ext} (he : e ∈ L) : ∃ f, atE L e.lba = some f ∧ f.zone = e.zone ∧ f.off = e.off ∧ f.ver = e.ver := by
  have hm := Chk.may hC e he
  have hB : Blocks e.lba 1 := by unfold May at hm; unfold Blocks; omega
  obtain ⟨i, hi, rfl⟩ := List.getElem_of_mem he
  rw [← nth_lt (d := ext0) hi] at hm hB ⊢
  have hf := find_at (d := ext0) (p := hasB (nth ext0 L i).lba) hi (fun j hj => by
    have h1 := hC.lt hj hi
    simp [hasB]; omega) (by have := hm.2.1; simp [hasB]; omega)
  refine ⟨clipE (nth ext0 L i).lba 1 (nth ext0 L i), by rw [atE, if_pos ⟨hC, hB⟩, hf]; rfl, ?_⟩
  unfold clipE uptoE fromE
  rw [if_neg (by omega)]
  exact ⟨rfl, rfl, rfl⟩

/-- All that the zones ahead of one have. -/
def totE (L : List Ext) : Nat → Int
  | 0 => 0
  | z + 1 => totE L z + cntE L z
theorem totE_bound {L : List Ext} (h : ∀ e ∈ L, May e) : ∀ z, 0 ≤ totE L z ∧ totE L z ≤ 1099511627776 * (L.length : Int) * (z : Int)
  | 0 => by simp [totE]
  | z + 1 => by
    obtain ⟨h1, h2⟩ := totE_bound h z
    obtain ⟨h3, h4⟩ := cntE_bound h z
    simp only [totE]
    refine ⟨by omega, ?_⟩
    rw [show ((z + 1 : Nat) : Int) = (z : Int) + 1 by omega, Int.mul_add, Int.mul_one]
    omega
/-- What is in zones ahead of one. -/
def wantE (z : Nat) : List Ext → Int
  | [] => 0
  | e :: r => (if 0 ≤ e.zone ∧ e.zone < (z : Int) then e.n else 0) + wantE z r
theorem wantE_append (z : Nat) (L M : List Ext) : wantE z (L ++ M) = wantE z L + wantE z M := by
  induction L with
  | nil => simp [wantE]
  | cons x r ih => simp only [List.cons_append, wantE, ih]; omega
theorem wantE_step {L : List Ext} {k z : Nat} {x : Ext} (h : k < L.length) (hx : nth ext0 L k = x) : wantE z (L.take (k + 1)) = wantE z (L.take k) + (if 0 ≤ x.zone ∧ x.zone < (z : Int) then x.n else 0) := by
  rw [take_nth (d := ext0) h, hx, wantE_append]
  simp [wantE]
theorem wantE_bound {L : List Ext} (h : ∀ e ∈ L, May e) (z : Nat) : 0 ≤ wantE z L ∧ wantE z L ≤ 1099511627776 * (L.length : Int) := by
  induction L with
  | nil => simp [wantE]
  | cons x r ih =>
    obtain ⟨h1, h2⟩ := ih fun e he => h e (List.mem_cons_of_mem _ he)
    have hx := h x List.mem_cons_self
    unfold May at hx
    simp only [wantE, List.length_cons]
    split <;> omega
theorem want_succ (z : Nat) (L : List Ext) : wantE (z + 1) L = wantE z L + cntE L z := by
  induction L with
  | nil => rfl
  | cons x r ih =>
    simp only [wantE, cntE, ih]
    by_cases h1 : x.zone = (z : Int)
    · rw [if_pos (by omega), if_neg (by omega), if_pos h1]; omega
    · rw [if_neg h1]
      by_cases h2 : 0 ≤ x.zone ∧ x.zone < (z : Int)
      · rw [if_pos (by omega), if_pos h2]; omega
      · rw [if_neg (by omega), if_neg h2]; omega
theorem tot_want (L : List Ext) : ∀ z, totE L z = wantE z L
  | 0 => by
    induction L with
    | nil => rfl
    | cons x r ih =>
      simp only [wantE, totE] at ih ⊢
      rw [if_neg (by omega)]
      omega
  | z + 1 => by rw [totE, tot_want L z, want_succ]
theorem take_may {L : List Ext} (h : ∀ e ∈ L, May e) (k : Nat) : ∀ e ∈ L.take k, May e := fun e he => h e (List.mem_of_mem_take he)
end Go.Proofs
