/- Histories: Judge as a law of lists: it looks at each block alone. -/
import Derived.Test.YtajppkjbmiemhaaHL
namespace Go.Hist
set_option linter.unusedVariables false
set_option linter.unusedSimpArgs false
set_option linter.unusedSectionVars false
open Go

def jl (m : M) : List HEv → Bool
  | [] => true
  | e :: L => okE m e && jl (nxt m e) L
theorem jl_congr : ∀ (L : List HEv) (m m' : M), (∀ e ∈ L, m e.lba = m' e.lba) → jl m L = jl m' L
  | [], _, _, _ => rfl
  | e :: L, m, m', h => by
    have h0 := h e (by simp)
    have hc : cur m e = cur m' e := by simp only [cur, h0]
    have ho : okE m e = okE m' e := by simp only [okE, hc]
    simp only [jl, ho]
    rw [jl_congr L (nxt m e) (nxt m' e) fun x hx => ?_]
    simp only [nxt, hc]
    split
    · rfl
    · exact h x (by simp [hx])
def ofB (x : Int) (L : List HEv) : List HEv := L.filter fun e => decide (e.lba = x)
def notB (x : Int) (L : List HEv) : List HEv := L.filter fun e => !decide (e.lba = x)
/-- Judge answers for each block alone. -/
theorem jl_each : ∀ (L : List HEv) (m : M), jl m L = true ↔ ∀ x, jl m (ofB x L) = true
  | [], m => by simp [ofB, jl]
  | e :: L, m => by
    have ih := jl_each L (nxt m e)
    simp only [jl, Bool.and_eq_true]
    rw [ih]
    have hne : ∀ x, e.lba ≠ x → jl m (ofB x (e :: L)) = jl (nxt m e) (ofB x L) := fun x hx => by
      have e1 : ofB x (e :: L) = ofB x L := by simp [ofB, hx]
      rw [e1]
      refine jl_congr _ _ _ fun y hy => ?_
      simp only [ofB, List.mem_filter, decide_eq_true_eq] at hy
      simp only [nxt]
      rw [if_neg (by rw [hy.2]; exact fun h => hx h.symm)]
    have heq : jl m (ofB e.lba (e :: L)) = (okE m e && jl (nxt m e) (ofB e.lba L)) := by
      have e1 : ofB e.lba (e :: L) = e :: ofB e.lba L := by simp [ofB]
      rw [e1]; rfl
    constructor
    · rintro ⟨h1, h2⟩ x
      by_cases hx : e.lba = x
      · subst hx; rw [heq, h1, h2 e.lba]; rfl
      · rw [hne x hx]; exact h2 x
    · intro h
      have h0 := h e.lba
      rw [heq, Bool.and_eq_true] at h0
      refine ⟨h0.1, fun x => ?_⟩
      by_cases hx : e.lba = x
      · subst hx; exact h0.2
      · rw [← hne x hx]; exact h x
theorem jl_of (L : List HEv) (m : M) (h : jl m L = true) (x : Int) : jl m (ofB x L) = true := (jl_each L m).1 h x
theorem jl_not (L : List HEv) (m : M) (h : jl m L = true) (x : Int) : jl m (notB x L) = true := by
  refine (jl_each _ m).2 fun y => ?_
  have h0 := jl_of L m h y
  by_cases hy : y = x
  · have e : ofB y (notB x L) = [] := by
      unfold ofB notB
      rw [List.filter_filter]
      refine List.filter_eq_nil_iff.2 fun e _ => ?_
      subst hy
      simp
    rw [e]; rfl
  · have e : ofB y (notB x L) = ofB y L := by
      unfold ofB notB
      rw [List.filter_filter]
      refine List.filter_congr fun e _ => ?_
      by_cases hey : e.lba = y
      · simp [hey, hy]
      · simp [hey]
    rw [e]; exact h0
/-- Its blocks tell all. -/
theorem jl_blocks (L : List HEv) (K : List Int) (hK : ∀ x, x ∈ K ↔ ∃ e ∈ L, e.lba = x) : (K.all fun x => jl (fun _ => none) (ofB x L)) = jl (fun _ => none) L := by
  rw [Bool.eq_iff_iff, List.all_eq_true]
  constructor
  · intro h
    refine (jl_each L _).2 fun x => ?_
    by_cases hx : x ∈ K
    · exact h x hx
    · have e : ofB x L = [] := List.filter_eq_nil_iff.2 fun e he => by
        simp only [decide_eq_true_eq]
        exact fun h2 => hx ((hK x).2 ⟨e, he, h2⟩)
      rw [e]; rfl
  · intro h x _
    exact jl_of L _ h x
theorem jl_at (f : Nat → HEv) : ∀ (L : List HEv) (k : Nat), (∀ j, j < L.length → L[j]? = some (f (k + j))) → (jl (stAt f k) L = true ↔ ∀ j, j < L.length → okAt f (k + j) = true)
  | [], k, _ => by simp [jl]
  | e :: L, k, h => by
    have he : e = f k := by have := h 0 (by simp); simpa using this
    have ih := jl_at f L (k + 1) fun j hj => by
      have := h (j + 1) (by simp; omega)
      rw [List.getElem?_cons_succ] at this
      rw [this, show k + (j + 1) = k + 1 + j by omega]
    simp only [jl, Bool.and_eq_true]
    subst he
    rw [show nxt (stAt f k) (f k) = stAt f (k + 1) from rfl, ih]
    constructor
    · rintro ⟨h1, h2⟩ j hj
      rcases j with _ | j
      · exact h1
      · have := h2 j (by simpa using hj)
        rw [show k + (j + 1) = k + 1 + j by omega]; exact this
    · intro h2
      exact ⟨h2 0 (by simp), fun j hj => by
        have := h2 (j + 1) (by simp; omega)
        rw [show k + (j + 1) = k + 1 + j by omega] at this; exact this⟩
/-- What Judge answers of a list. -/
def JL (L : List HEv) (w : World) (e : Ending) (w' : World) : Prop :=
  ∃ k : Nat, e = .returned (.tuple #[.int .i64 k, .bool (jl (fun _ => none) L)]) ∧ k ≤ L.length ∧ (∀ n, n ≤ L.length → (jl (fun _ => none) (L.take n) = true ↔ n ≤ k)) ∧ RowKit.Below w.heap.size w w'
theorem jl_post {L : List HEv} {f : Nat → HEv} (hf : ∀ j, j < L.length → L[j]? = some (f j)) {w w' : World} {e : Ending} (h : JPost f L.length w e w') : JL L w e w' := by
  obtain ⟨k, ok, rfl, hb, h1, h2⟩ := h
  have hall := jl_at f L 0 (by simpa using hf)
  have hpre : ∀ n, n ≤ L.length → (jl (fun _ => none) (L.take n) = true ↔ ∀ j, j < n → okAt f j = true) := fun n hn => by
    have := jl_at f (L.take n) 0 fun j hj => by
      rw [List.length_take] at hj
      rw [List.getElem?_take_of_lt (by omega), hf j (by omega)]
      simp
    simp only [List.length_take, Nat.zero_add] at this
    rw [Nat.min_eq_left hn] at this
    exact this
  simp only [Nat.zero_add] at hall
  cases ok with
  | true =>
    obtain ⟨rfl, h3⟩ := h1 rfl
    refine ⟨L.length, by rw [show jl (fun _ => none) L = true from hall.2 h3], Nat.le_refl _, fun n hn => ?_, hb⟩
    rw [hpre n hn]
    exact ⟨fun _ => hn, fun _ j hj => h3 j (by omega)⟩
  | false =>
    obtain ⟨h3, h4, h5⟩ := h2 rfl
    have hF : jl (fun _ => none) L = false := by
      cases hj : jl (fun _ => none) L with
      | false => rfl
      | true => have := hall.1 hj k h3; rw [h4] at this; cases this
    refine ⟨k, by rw [hF], by omega, fun n hn => ?_, hb⟩
    rw [hpre n hn]
    constructor
    · intro h
      refine Classical.byContradiction fun hk => ?_
      have := h k (by omega)
      rw [h4] at this; cases this
    · exact fun h j hj => h5 j (by omega)
end Go.Hist
