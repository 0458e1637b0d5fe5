/- CwJ: texts of this proof, joined. -/
import Derived.Test.YtbhkpmnieopddaaCwI
set_option linter.unusedVariables false
set_option linter.unusedSimpArgs false
set_option linter.unusedSectionVars false
namespace Go.Proofs.C8
open Go Go.Proofs Go.SX Go.RowKit Go.Proofs.L6
def tapeL (E : List Evt) : List Nat := (E.map wr).flatten
def endN (E : List Evt) (i : Nat) : Nat := (tapeL (E.take i)).length
def endsL (E : List Evt) : List Int := (List.range (E.length + 1)).map fun i => (endN E i : Int)
theorem tapeL_snoc (E : List Evt) (e : Evt) : tapeL (E ++ [e]) = tapeL E ++ wr e := by simp [tapeL]
theorem endN_snoc {E : List Evt} {e : Evt} {i : Nat} (h : i ≤ E.length) : endN (E ++ [e]) i = endN E i := by
  unfold endN
  rw [List.take_append_of_le_length h]
theorem endsL_snoc (E : List Evt) (e : Evt) : endsL (E ++ [e]) = endsL E ++ [((tapeL (E ++ [e])).length : Int)] := by
  unfold endsL
  rw [List.length_append, List.length_singleton, List.range_succ, List.map_append]
  congr 1
  · refine List.map_congr_left fun i hi => ?_
    rw [endN_snoc (by have := List.mem_range.1 hi; omega)]
  · simp only [List.map_cons, List.map_nil]
    unfold endN
    rw [List.take_of_length_le (by simp)]
theorem endsL_nth {E : List Evt} {i : Nat} (h : i ≤ E.length) : nth (0 : Int) (endsL E) i = endN E i := by
  unfold endsL
  rw [nth_lt (by simp; omega)]
  simp
theorem endsL_len (E : List Evt) : (endsL E).length = E.length + 1 := by simp [endsL]
theorem wr_pos (e : Evt) : 0 < (wr e).length := by
  rw [wr_putN]
  have : natL e = e.d.toNat :: ((evL e).tail.map Int.toNat) := rfl
  rw [this, putN_cons]
  have : 0 < (put e.d.toNat).length := by
    by_cases h : e.d.toNat < 128
    · rw [put_lt h]; simp
    · rw [put_ge h]; simp
  simp
  omega
theorem wr_len {e : Evt} (h : ∀ x ∈ evL e, x ≤ 9223372036854775807) : (wr e).length ≤ 80 := by
  have one : ∀ x ∈ evL e, (put x.toNat).length ≤ 10 := fun x hx => put_len 9 _ (by
    have h1 := h x hx
    have h2 : (128 : Nat) ^ (9 + 1) = 1180591620717411303424 := by decide
    omega)
  have all : ∀ L : List Int, (∀ x ∈ L, (put x.toNat).length ≤ 10) → (putAll L).length ≤ 10 * L.length := fun L => by
    induction L with
    | nil => intro _; simp [putAll]
    | cons a r ih =>
      intro h
      have h1 := ih fun x hx => h x (List.mem_cons_of_mem _ hx)
      have h2 := h a List.mem_cons_self
      have : putAll (a :: r) = put a.toNat ++ putAll r := by simp [putAll]
      rw [this, List.length_append, List.length_cons]
      omega
  have := all (evL e) one
  have h8 : (evL e).length = 8 := rfl
  unfold wr
  omega
theorem good0 : goodE evt0 := by
  unfold goodE okE
  exact ⟨by decide, by decide⟩
theorem tape_all {E : List Evt} (h : ∀ e ∈ E, goodE e) : Tape E evt0 (tapeL E) := ⟨good0, h, [], wr_pos _, by simp, by simp [tapeL]⟩
theorem tape_cut {E : List Evt} (h : ∀ e ∈ E, goodE e) {k cut : Nat} (hk : k ≤ E.length) (h1 : endN E k ≤ cut) (h2 : k = E.length → cut ≤ (tapeL E).length) (h3 : k < E.length → cut < endN E (k + 1)) :
    ∃ x, Tape (E.take k) x ((tapeL E).take cut) := by
  by_cases hlt : k < E.length
  · obtain ⟨e, he⟩ : ∃ e, nth evt0 E k = e := ⟨_, rfl⟩
    have hem : e ∈ E := he ▸ nth_mem hlt
    have hsp : tapeL E = tapeL (E.take k) ++ (wr e ++ tapeL (E.drop (k + 1))) := by
      have : E = E.take k ++ e :: E.drop (k + 1) := by
        rw [← he, nth_lt hlt, List.getElem_cons_drop, List.take_append_drop]
      conv => lhs; rw [this]
      simp [tapeL]
    have hek : endN E (k + 1) = endN E k + (wr e).length := by
      unfold endN
      rw [take_nth (d := evt0) hlt, he, tapeL_snoc, List.length_append]
    have h3 := h3 hlt
    have hl : endN E k = (tapeL (E.take k)).length := rfl
    refine ⟨e, h e hem, fun y hy => h y (List.mem_of_mem_take hy), (wr e).take (cut - endN E k), by (first | (simp; done) | (simp; omega)), by (first | (simp; done) | (simp; omega)), ?_⟩
    rw [hsp, List.take_append, List.take_of_length_le (by omega), List.take_append_of_le_length (by omega)]
    rfl
  · obtain rfl : k = E.length := by omega
    have h2 := h2 rfl
    have hl : endN E E.length = (tapeL E).length := by
      unfold endN
      rw [List.take_length]
    rw [List.take_length, List.take_of_length_le (by omega)]
    exact ⟨evt0, tape_all h⟩
structure Cov where
  c : Co
  vL : Value
  vS : Value
  vW : Value
def cov0 : Cov := ⟨⟨⟨0, 0, []⟩, [], [], 0, 0⟩, .slice none 0 0, .slice none 0 0, .slice none 0 0⟩
def covC (x : Cov) : List SV := coC x.c x.vL x.vS x.vW
abbrev OwV := OwS covC 7 cov0
end Go.Proofs.C8
