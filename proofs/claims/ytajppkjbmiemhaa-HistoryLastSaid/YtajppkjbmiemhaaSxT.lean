/-
  Part T: what a sort in place does, in plain terms (a sort that need not be stable); data in a block as a function of its places. Holds for every program.
-/
import Derived.Test.YtajppkjbmiemhaaSxS
namespace Go.Pdq
set_option linter.unusedVariables false
set_option linter.unusedSimpArgs false
set_option linter.unusedSectionVars false
open Go Go.SX Go.RowKit

section
variable {α : Type}
/-- The places from one up to another one. -/
def sgm (g : Nat → α) (a b : Nat) : List α := (List.range' a (b - a)).map g
theorem sgm_nil {g : Nat → α} {a b : Nat} (h : b ≤ a) : sgm g a b = [] := by
  unfold sgm
  rw [show b - a = 0 by omega]
  rfl
theorem sgm_split {g : Nat → α} {a m b : Nat} (h1 : a ≤ m) (h2 : m ≤ b) : sgm g a b = sgm g a m ++ sgm g m b := by
  unfold sgm
  rw [← List.map_append]
  congr 1
  have e : m = a + 1 * (m - a) := by omega
  rw [show b - a = (m - a) + (b - m) by omega]
  conv => rhs; rhs; rw [e]
  rw [List.range'_append]
  congr 1
  omega
theorem sgm_congr {g g' : Nat → α} {a b : Nat} (h : ∀ j, a ≤ j → j < b → g' j = g j) : sgm g' a b = sgm g a b := by
  unfold sgm
  apply List.map_congr_left
  intro j hj
  have := List.mem_range'_1.1 hj
  exact h j this.1 (by omega)
theorem sgm_one {g : Nat → α} {a : Nat} : sgm g a (a + 1) = [g a] := by
  unfold sgm
  rw [show a + 1 - a = 1 by omega]
  rfl
theorem mem_sgm {g : Nat → α} {a b : Nat} {x : α} : x ∈ sgm g a b ↔ ∃ j, a ≤ j ∧ j < b ∧ g j = x := by
  unfold sgm
  rw [List.mem_map]
  constructor
  · rintro ⟨j, hj, rfl⟩
    have := List.mem_range'_1.1 hj
    exact ⟨j, this.1, by omega, rfl⟩
  · rintro ⟨j, h1, h2, rfl⟩
    exact ⟨j, List.mem_range'_1.2 ⟨h1, by omega⟩, rfl⟩
theorem sgm_len {g : Nat → α} {a b : Nat} : (sgm g a b).length = b - a := by simp [sgm]

/-- Two places change. -/
def swp (g : Nat → α) (p q : Nat) : Nat → α := fun j => if j = p then g q else if j = q then g p else g j
/-- The same things in other places; elsewhere nothing new. -/
def PermF (a b : Nat) (g g' : Nat → α) : Prop := (∀ j, j < a ∨ b ≤ j → g' j = g j) ∧ (sgm g' a b).Perm (sgm g a b)
theorem PermF.refl (a b : Nat) (g : Nat → α) : PermF a b g g := ⟨fun _ _ => rfl, List.Perm.refl _⟩
theorem PermF.trans {a b : Nat} {g g' g'' : Nat → α} (h : PermF a b g g') (h' : PermF a b g' g'') : PermF a b g g'' :=
  ⟨fun j hj => (h'.1 j hj).trans (h.1 j hj), h'.2.trans h.2⟩
theorem PermF.wide {a b a' b' : Nat} {g g' : Nat → α} (h : PermF a b g g') (h1 : a' ≤ a) (h2 : a ≤ b) (h3 : b ≤ b') : PermF a' b' g g' := by
  refine ⟨fun j hj => h.1 j (by omega), ?_⟩
  rw [sgm_split (g := g') (m := a) h1 (by omega), sgm_split (g := g') (a := a) (m := b) h2 h3, sgm_split (g := g) (m := a) h1 (by omega), sgm_split (g := g) (a := a) (m := b) h2 h3]
  rw [sgm_congr (g := g) (g' := g') (a := a') (b := a) fun j _ hj => h.1 j (.inl hj), sgm_congr (g := g) (g' := g') (a := b) (b := b') fun j hj _ => h.1 j (.inr hj)]
  exact (h.2.append_right _).append_left _
theorem PermF.mem {a b : Nat} {g g' : Nat → α} (h : PermF a b g g') {j : Nat} (h1 : a ≤ j) (h2 : j < b) : ∃ i, a ≤ i ∧ i < b ∧ g i = g' j :=
  mem_sgm.1 (h.2.mem_iff.1 (mem_sgm.2 ⟨j, h1, h2, rfl⟩))
theorem PermF.all {a b : Nat} {g g' : Nat → α} (h : PermF a b g g') {Q : α → Prop} (hQ : ∀ j, a ≤ j → j < b → Q (g j)) : ∀ j, a ≤ j → j < b → Q (g' j) := by
  intro j h1 h2
  obtain ⟨i, i1, i2, e⟩ := h.mem h1 h2
  rw [← e]; exact hQ i i1 i2
theorem swp_self {g : Nat → α} {p : Nat} : swp g p p = g := by
  funext j
  unfold swp
  by_cases h : j = p
  · rw [if_pos h, h]
  · rw [if_neg h, if_neg h]
theorem swp_comm {g : Nat → α} {p q : Nat} : swp g p q = swp g q p := by
  funext j
  unfold swp
  by_cases h1 : j = p
  · by_cases h2 : j = q
    · rw [if_pos h1, if_pos h2, ← h1, ← h2]
    · rw [if_pos h1, if_neg h2, if_pos h1]
  · by_cases h2 : j = q
    · rw [if_neg h1, if_pos h2, if_pos h2]
    · rw [if_neg h1, if_neg h2, if_neg h2, if_neg h1]
theorem PermF.swp_lt {a b p q : Nat} {g : Nat → α} (h1 : a ≤ p) (h2 : p < q) (h3 : q < b) : PermF a b g (swp g p q) := by
  refine ⟨fun j hj => ?_, ?_⟩
  · unfold swp
    rw [if_neg (by omega), if_neg (by omega)]
  · have e : ∀ g : Nat → α, sgm g a b = sgm g a p ++ (g p :: (sgm g (p + 1) q ++ (g q :: sgm g (q + 1) b))) := fun g => by
      rw [sgm_split (m := p) h1 (by omega), sgm_split (a := p) (m := p + 1) (by omega) (by omega), sgm_one, sgm_split (a := p + 1) (m := q) (by omega) (by omega), sgm_split (a := q) (m := q + 1) (by omega) (by omega), sgm_one]
      rfl
    rw [e, e]
    have a1 : sgm (swp g p q) a p = sgm g a p := sgm_congr fun j _ hj => by unfold swp; rw [if_neg (by omega), if_neg (by omega)]
    have a2 : sgm (swp g p q) (p + 1) q = sgm g (p + 1) q := sgm_congr fun j hj _ => by unfold swp; rw [if_neg (by omega), if_neg (by omega)]
    have a3 : sgm (swp g p q) (q + 1) b = sgm g (q + 1) b := sgm_congr fun j hj _ => by unfold swp; rw [if_neg (by omega), if_neg (by omega)]
    have a4 : swp g p q p = g q := if_pos rfl
    have a5 : swp g p q q = g p := by unfold swp; rw [if_neg (by omega), if_pos rfl]
    rw [a1, a2, a3, a4, a5]
    refine List.Perm.append_left _ ?_
    have s1 : (g q :: (sgm g (p + 1) q ++ (g p :: sgm g (q + 1) b))).Perm (g q :: g p :: (sgm g (p + 1) q ++ sgm g (q + 1) b)) := List.Perm.cons _ List.perm_middle
    have s2 : (g p :: (sgm g (p + 1) q ++ (g q :: sgm g (q + 1) b))).Perm (g p :: g q :: (sgm g (p + 1) q ++ sgm g (q + 1) b)) := List.Perm.cons _ List.perm_middle
    exact (s1.trans (List.Perm.swap _ _ _)).trans s2.symm
theorem PermF.swp {a b p q : Nat} {g : Nat → α} (h1 : a ≤ p) (h2 : p < b) (h3 : a ≤ q) (h4 : q < b) : PermF a b g (swp g p q) := by
  rcases Nat.lt_trichotomy p q with h | h | h
  · exact PermF.swp_lt h1 h h4
  · subst h
    rw [swp_self]
    exact PermF.refl _ _ _
  · rw [swp_comm]
    exact PermF.swp_lt h3 h h2

/-- An order. -/
structure PreO (le : α → α → Prop) : Prop where
  tot : ∀ x y, le x y ∨ le y x
  tr : ∀ x y z, le x y → le y z → le x z
theorem PreO.rfl' {le : α → α → Prop} (o : PreO le) (x : α) : le x x := (o.tot x x).elim id id
theorem PreO.of_not {le : α → α → Prop} (o : PreO le) {x y : α} (h : ¬ le y x) : le x y := (o.tot x y).resolve_right h
def SortF (le : α → α → Prop) (a b : Nat) (g : Nat → α) : Prop := ∀ i j, a ≤ i → i ≤ j → j < b → le (g i) (g j)
theorem SortF.steps {le : α → α → Prop} (o : PreO le) {a b : Nat} {g : Nat → α} (h : ∀ i, a ≤ i → i + 1 < b → le (g i) (g (i + 1))) : SortF le a b g := by
  intro i j hi hij hj
  obtain ⟨d, rfl⟩ : ∃ d, j = i + d := ⟨j - i, by omega⟩
  induction d with
  | zero => exact o.rfl' _
  | succ d ih => exact o.tr _ _ _ (ih (by omega) (by omega)) (h (i + d) (by omega) (by omega))
theorem SortF.congr {le : α → α → Prop} {a b : Nat} {g g' : Nat → α} (h : SortF le a b g) (e : ∀ j, a ≤ j → j < b → g' j = g j) : SortF le a b g' := by
  intro i j hi hij hj
  rw [e i hi (by omega), e j (by omega) hj]
  exact h i j hi hij hj

/-! ### insertion -/
/-- The thing at j goes down to its place; what is above is done. -/
structure InsI (le : α → α → Prop) (a i j : Nat) (g : Nat → α) : Prop where
  lo : ∀ p q, a ≤ p → p ≤ q → q ≤ i → p ≠ j → q ≠ j → le (g p) (g q)
  hi : ∀ q, j < q → q ≤ i → le (g j) (g q)
theorem InsI.start {le : α → α → Prop} (o : PreO le) {a i : Nat} {g : Nat → α} (h : SortF le a i g) : InsI le a i i g :=
  ⟨fun p q h1 h2 h3 h4 h5 => h p q h1 h2 (by omega), fun q h1 h2 => by omega⟩
theorem InsI.step {le : α → α → Prop} (o : PreO le) {a i j : Nat} {g : Nat → α} (h : InsI le a i (j + 1) g) (hj : a ≤ j) (hji : j + 1 ≤ i) (hl : ¬ le (g j) (g (j + 1))) : InsI le a i j (swp g (j + 1) j) := by
  have e1 : swp g (j + 1) j (j + 1) = g j := if_pos rfl
  have e2 : swp g (j + 1) j j = g (j + 1) := by unfold Pdq.swp; rw [if_neg (by omega), if_pos rfl]
  have e3 : ∀ q, q ≠ j → q ≠ j + 1 → swp g (j + 1) j q = g q := fun q h1 h2 => by unfold Pdq.swp; rw [if_neg h2, if_neg h1]
  refine ⟨fun p q h1 h2 h3 h4 h5 => ?_, fun q h1 h2 => ?_⟩
  · by_cases hp : p = j + 1
    · subst hp
      by_cases hq : q = j + 1
      · subst hq; exact o.rfl' _
      · rw [e1, e3 q h5 hq]
        exact h.lo j q (by omega) (by omega) h3 (by omega) hq
    · rw [e3 p h4 hp]
      by_cases hq : q = j + 1
      · subst hq
        rw [e1]
        exact h.lo p j h1 (by omega) (by omega) hp (by omega)
      · rw [e3 q h5 hq]
        exact h.lo p q h1 h2 h3 hp hq
  · rw [e2]
    by_cases hq : q = j + 1
    · subst hq
      rw [e1]
      exact o.of_not hl
    · rw [e3 q (by omega) hq]
      exact h.hi q (by omega) h2
theorem InsI.done {le : α → α → Prop} (o : PreO le) {a i j : Nat} {g : Nat → α} (h : InsI le a i j g) (hj : a ≤ j) (hji : j ≤ i) (hl : j = a ∨ le (g (j - 1)) (g j)) : SortF le a (i + 1) g := by
  intro p q h1 h2 h3
  by_cases hp : p = j
  · subst hp
    by_cases hq : q = p
    · subst hq; exact o.rfl' _
    · exact h.hi q (by omega) (by omega)
  · by_cases hq : q = j
    · subst hq
      rcases hl with hl | hl
      · omega
      · exact o.tr _ _ _ (h.lo p (q - 1) h1 (by omega) (by omega) hp (by omega)) hl
    · exact h.lo p q h1 h2 (by omega) hp hq

/-! ### heaps -/
def HeapF (le : α → α → Prop) (f lo hi : Nat) (g : Nat → α) : Prop := ∀ i c, lo ≤ i → (c = 2 * i + 1 ∨ c = 2 * i + 2) → c < hi → le (g (f + c)) (g (f + i))
/-- A heap but for what is at r. -/
structure SiftI (le : α → α → Prop) (f lo hi r : Nat) (g : Nat → α) : Prop where
  but : ∀ i c, lo ≤ i → i ≠ r → (c = 2 * i + 1 ∨ c = 2 * i + 2) → c < hi → le (g (f + c)) (g (f + i))
  up : ∀ i c, lo ≤ i → (r = 2 * i + 1 ∨ r = 2 * i + 2) → (c = 2 * r + 1 ∨ c = 2 * r + 2) → c < hi → le (g (f + c)) (g (f + i))
theorem SiftI.start {le : α → α → Prop} {f lo hi : Nat} {g : Nat → α} (h : HeapF le f (lo + 1) hi g) : SiftI le f lo hi lo g :=
  ⟨fun i c h1 h2 h3 h4 => h i c (by omega) h3 h4, fun i c h1 h2 => by omega⟩
theorem SiftI.done {le : α → α → Prop} {f lo hi r : Nat} {g : Nat → α} (h : SiftI le f lo hi r g) (hc : ∀ c, (c = 2 * r + 1 ∨ c = 2 * r + 2) → c < hi → le (g (f + c)) (g (f + r))) : HeapF le f lo hi g := by
  intro i c h1 h2 h3
  by_cases hi : i = r
  · subst hi; exact hc c h2 h3
  · exact h.but i c h1 hi h2 h3
theorem SiftI.step {le : α → α → Prop} (o : PreO le) {f lo hi r c : Nat} {g : Nat → α} (h : SiftI le f lo hi r g) (hr : lo ≤ r) (hc : c = 2 * r + 1 ∨ c = 2 * r + 2) (hch : c < hi) (hmax : ∀ d, (d = 2 * r + 1 ∨ d = 2 * r + 2) → d < hi → le (g (f + d)) (g (f + c))) (hl : ¬ le (g (f + c)) (g (f + r))) : SiftI le f lo hi c (swp g (f + r) (f + c)) := by
  have hcr : c ≠ r := by omega
  have e1 : swp g (f + r) (f + c) (f + r) = g (f + c) := if_pos rfl
  have e2 : swp g (f + r) (f + c) (f + c) = g (f + r) := by unfold Pdq.swp; rw [if_neg (by omega), if_pos rfl]
  have e3 : ∀ q, q ≠ r → q ≠ c → swp g (f + r) (f + c) (f + q) = g (f + q) := fun q h1 h2 => by unfold Pdq.swp; rw [if_neg (by omega), if_neg (by omega)]
  refine ⟨fun i d h1 h2 h3 h4 => ?_, fun i d h1 h2 h3 h4 => ?_⟩
  · by_cases hi : i = r
    · subst hi
      rw [e1]
      by_cases hd : d = c
      · subst hd
        rw [e2]
        exact o.of_not hl
      · rw [e3 d (by omega) hd]
        exact hmax d h3 h4
    · rw [e3 i hi h2]
      by_cases hd : d = c
      · subst hd
        omega
      · by_cases hd2 : d = r
        · subst hd2
          rw [e1]
          exact h.up i c h1 h3 hc hch
        · rw [e3 d hd2 hd]
          exact h.but i d h1 hi h3 h4
  · have hi : i = r := by omega
    subst hi
    rw [e1, e3 d (by omega) (by omega)]
    exact h.but c d (by omega) hcr h3 h4
theorem heap_max {le : α → α → Prop} (o : PreO le) {f hi : Nat} {g : Nat → α} (h : HeapF le f 0 hi g) : ∀ c, c < hi → le (g (f + c)) (g (f + 0)) := by
  intro c
  induction c using Nat.strongRecOn with
  | _ c ih =>
    intro hc
    rcases Nat.eq_zero_or_pos c with rfl | h0
    · exact o.rfl' _
    · exact o.tr _ _ _ (h ((c - 1) / 2) c (by omega) (by omega) hc) (ih ((c - 1) / 2) (by omega) (by omega))

/-- What a step of a sort leaves to be done: the places from a' up to b'. -/
def Left (le : α → α → Prop) (a b : Nat) (g : Nat → α) (a' b' : Nat) (g1 : Nat → α) : Prop :=
  a ≤ a' ∧ a' ≤ b' ∧ b' ≤ b ∧ PermF a b g g1 ∧ ∀ g2, PermF a' b' g1 g2 → SortF le a' b' g2 → SortF le a b g2
theorem Left.start {le : α → α → Prop} {a b : Nat} {g : Nat → α} (h : a ≤ b) : Left le a b g a b g := ⟨Nat.le_refl _, h, Nat.le_refl _, PermF.refl _ _ _, fun _ _ h => h⟩
theorem Left.perm {le : α → α → Prop} {a b a' b' : Nat} {g g1 g2 : Nat → α} (h : Left le a b g a' b' g1) (hp : PermF a' b' g1 g2) : Left le a b g a' b' g2 :=
  ⟨h.1, h.2.1, h.2.2.1, h.2.2.2.1.trans (hp.wide h.1 h.2.1 h.2.2.1), fun g3 h3 hs => h.2.2.2.2 g3 (hp.trans h3) hs⟩
theorem Left.fin {le : α → α → Prop} {a b a' b' : Nat} {g g1 g2 : Nat → α} (h : Left le a b g a' b' g1) (hp : PermF a' b' g1 g2) (hs : SortF le a' b' g2) : PermF a b g g2 ∧ SortF le a b g2 :=
  ⟨(h.perm hp).2.2.2.1, h.2.2.2.2 g2 hp hs⟩
/-- The left part is done. -/
theorem Left.cutL {le : α → α → Prop} (o : PreO le) {a b a' b' m : Nat} {g g1 : Nat → α} (h : Left le a b g a' b' g1) (h1 : a' ≤ m) (h2 : m ≤ b') (hs : SortF le a' m g1) (hc : ∀ i j, a' ≤ i → i < m → m ≤ j → j < b' → le (g1 i) (g1 j)) : Left le a b g m b' g1 := by
  refine ⟨Nat.le_trans h.1 h1, h2, h.2.2.1, h.2.2.2.1, fun g2 hp hs2 => h.2.2.2.2 g2 (hp.wide h1 h2 (Nat.le_refl _)) ?_⟩
  intro i j hi hij hj
  by_cases i1 : i < m
  · rw [hp.1 i (.inl i1)]
    by_cases j1 : j < m
    · rw [hp.1 j (.inl j1)]; exact hs i j hi hij j1
    · obtain ⟨k, k1, k2, e⟩ := hp.mem (j := j) (by omega) hj
      rw [← e]; exact hc i k hi i1 k1 k2
  · exact hs2 i j (by omega) hij hj
/-- The right part is done. -/
theorem Left.cutR {le : α → α → Prop} (o : PreO le) {a b a' b' m : Nat} {g g1 : Nat → α} (h : Left le a b g a' b' g1) (h1 : a' ≤ m) (h2 : m ≤ b') (hs : SortF le m b' g1) (hc : ∀ i j, a' ≤ i → i < m → m ≤ j → j < b' → le (g1 i) (g1 j)) : Left le a b g a' m g1 := by
  refine ⟨h.1, h1, Nat.le_trans h2 h.2.2.1, h.2.2.2.1, fun g2 hp hs2 => h.2.2.2.2 g2 (hp.wide (Nat.le_refl _) h1 h2) ?_⟩
  intro i j hi hij hj
  by_cases j1 : j < m
  · exact hs2 i j hi hij j1
  · rw [hp.1 j (.inr (by omega))]
    by_cases i1 : i < m
    · obtain ⟨k, k1, k2, e⟩ := hp.mem (j := i) hi i1
      rw [← e]; exact hc k j k1 k2 (by omega) hj
    · rw [hp.1 i (.inr (by omega))]; exact hs i j (by omega) hij hj
end

section
variable {α : Type} {enc : α → List SV} {sz : Nat}
/-- A list in a block of one's own. -/
def DatG (enc : α → List SV) (sz : Nat) (w : World) (b N u n : Nat) (g : Nat → α) : Prop := n ≤ N ∧ ∃ row : Nat → List SV, (SO.arr 0 N row sz u (0, 0)).rep w b ∧ ∀ j, j < n → row j = enc (g j)
def SrtG (enc : α → List SV) (sz : Nat) (w : World) (b N u n : Nat) (Q : (Nat → α) → Prop) (e : Ending) (w' : World) : Prop := e = .returned (.tuple #[]) ∧ (∃ g', DatG enc sz w' b N u n g' ∧ Q g') ∧ KeepsTo w [b] w'
theorem DatG.keep {w w' : World} {b N u n : Nat} {g : Nat → α} {M : List Nat} (h : DatG enc sz w b N u n g) (hk : KeepsTo w M w') (hM : b ∉ M) : DatG enc sz w' b N u n g := by
  obtain ⟨h1, row, h2, h3⟩ := h
  exact ⟨h1, row, hk.same h2 hM, h3⟩
theorem swp_rows {row : Nat → List SV} {g : Nat → α} {n p q : Nat} (hrow : ∀ j, j < n → row j = enc (g j)) (hp : p < n) (hq : q < n) : ∀ j, j < n → setRow (setRow row p (enc (g q))) q (enc (g p)) j = enc (swp g p q j) := by
  intro j hj
  unfold setRow swp
  by_cases h1 : j = q
  · subst h1
    rw [if_pos rfl]
    by_cases h2 : j = p
    · subst h2; rw [if_pos rfl]
    · rw [if_neg h2, if_pos rfl]
  · rw [if_neg h1]
    by_cases h2 : j = p
    · rw [if_pos h2, if_pos h2]
    · rw [if_neg h2, if_neg h2, if_neg h1]
      exact hrow j hj
end
theorem _root_.Go.SX.KeepsTo.andThen {w w1 w2 : World} {M : List Nat} (h : KeepsTo w M w1) (h2 : KeepsTo w1 M w2) : KeepsTo w M w2 := Keeps.to h h2 fun x hx => .inr hx
end Go.Pdq
