/- Histories: what a stable sort does, in plain terms. -/
namespace Go.Proofs
set_option linter.unusedVariables false
set_option linter.unusedSimpArgs false
set_option linter.unusedSectionVars false

section
variable {α : Type}
/-- The places from one up to another one. -/
def sgm (g : Nat → α) (a b : Nat) : List α := (List.range' a (b - a)).map g
theorem sgm_nil {g : Nat → α} {a b : Nat} (h : b ≤ a) : sgm g a b = [] := by
  unfold sgm
  rw [show b - a = 0 by omega]
  rfl
theorem sgm_split {g : Nat → α} {a m b : Nat} (h1 : a ≤ m) (h2 : m ≤ b) : sgm g a b = sgm g a m ++ sgm g m b := by
  unfold sgm
  rw [← List.map_append]
  congr 1
  have e : m = a + 1 * (m - a) := by omega
  rw [show b - a = (m - a) + (b - m) by omega]
  conv => rhs; rhs; rw [e]
  rw [List.range'_append]
  congr 1
  omega
theorem sgm_shift {g g' : Nat → α} {a a' k : Nat} (h : ∀ j, j < k → g' (a' + j) = g (a + j)) : sgm g' a' (a' + k) = sgm g a (a + k) := by
  apply List.ext_getElem
  · simp [sgm]
  · intro j h1 h2
    have hj : j < k := by simpa [sgm] using h1
    simp [sgm]
    exact h j hj
theorem sgm_congr {g g' : Nat → α} {a b : Nat} (h : ∀ j, a ≤ j → j < b → g' j = g j) : sgm g' a b = sgm g a b := by
  by_cases hab : b ≤ a
  · rw [sgm_nil hab, sgm_nil hab]
  · have e : b = a + (b - a) := by omega
    rw [e]
    exact sgm_shift fun j hj => h (a + j) (by omega) (by omega)
theorem mem_sgm {g : Nat → α} {a b : Nat} {x : α} : x ∈ sgm g a b ↔ ∃ j, a ≤ j ∧ j < b ∧ g j = x := by
  unfold sgm
  rw [List.mem_map]
  constructor
  · rintro ⟨j, hj, rfl⟩
    have := List.mem_range'_1.1 hj
    exact ⟨j, this.1, by omega, rfl⟩
  · rintro ⟨j, h1, h2, rfl⟩
    exact ⟨j, List.mem_range'_1.2 ⟨h1, by omega⟩, rfl⟩

/-- Two runs that stand together change places. -/
def rot (g : Nat → α) (a m b : Nat) : Nat → α := fun j => if a ≤ j ∧ j < a + (b - m) then g (j + (m - a)) else if a + (b - m) ≤ j ∧ j < b then g (j - (b - m)) else g j
theorem rot_out {g : Nat → α} {a m b j : Nat} (h1 : a ≤ m) (h2 : m ≤ b) (h : j < a ∨ b ≤ j) : rot g a m b j = g j := by
  unfold rot
  rw [if_neg (by omega), if_neg (by omega)]
theorem rot_left {g : Nat → α} {a m b j : Nat} (h : a ≤ j) (h2 : j < a + (b - m)) : rot g a m b j = g (j + (m - a)) := by
  unfold rot
  rw [if_pos ⟨h, h2⟩]
theorem rot_right {g : Nat → α} {a m b j : Nat} (h : a + (b - m) ≤ j) (h2 : j < b) : rot g a m b j = g (j - (b - m)) := by
  unfold rot
  rw [if_neg (by omega), if_pos ⟨h, h2⟩]
theorem sgm_rot {g : Nat → α} {a m b : Nat} (h1 : a ≤ m) (h2 : m ≤ b) : sgm (rot g a m b) a b = sgm g m b ++ sgm g a m := by
  rw [sgm_split (m := a + (b - m)) (by omega) (by omega)]
  congr 1
  · have := sgm_shift (g := g) (g' := rot g a m b) (a := m) (a' := a) (k := b - m) fun j hj => by
      rw [rot_left (by omega) (by omega)]
      congr 1
      omega
    rw [this]
    congr 1
    omega
  · have := sgm_shift (g := g) (g' := rot g a m b) (a := a) (a' := a + (b - m)) (k := m - a) fun j hj => by
      rw [rot_right (by omega) (by omega)]
      congr 1
      omega
    rw [show a + (b - m) + (m - a) = b by omega, show a + (m - a) = m by omega] at this
    exact this
theorem rot_id1 {g : Nat → α} {m b : Nat} : rot g m m b = g := by
  funext j
  unfold rot
  split
  · congr 1; omega
  · split
    · omega
    · rfl
theorem rot_id2 {g : Nat → α} {a m : Nat} (h : a ≤ m) : rot g a m m = g := by
  funext j
  unfold rot
  split
  · omega
  · split
    · congr 1; omega
    · rfl
/-- Two places change. -/
def swp (g : Nat → α) (p q : Nat) : Nat → α := fun j => if j = p then g q else if j = q then g p else g j
theorem swp_up {g : Nat → α} {a k : Nat} (h : a ≤ k) : swp (rot g a (a + 1) (k + 1)) k (k + 1) = rot g a (a + 1) (k + 2) := by
  funext j
  unfold swp
  split
  · subst j
    rw [rot_out (by omega) (by omega) (by omega), rot_left (by omega) (by omega)]
    congr 1
    omega
  · split
    · subst j
      rw [rot_right (by omega) (by omega), rot_right (by omega) (by omega)]
      congr 1
      omega
    · by_cases hj : j < a ∨ k + 2 ≤ j
      · rw [rot_out (by omega) (by omega) (by omega), rot_out (by omega) (by omega) hj]
      · rw [rot_left (by omega) (by omega), rot_left (by omega) (by omega)]
theorem swp_down {g : Nat → α} {k m : Nat} (h : k + 1 ≤ m) : swp (rot g (k + 1) m (m + 1)) (k + 1) k = rot g k m (m + 1) := by
  funext j
  unfold swp
  split
  · subst j
    rw [rot_out (by omega) (by omega) (by omega), rot_right (by omega) (by omega)]
    congr 1
    omega
  · split
    · subst j
      rw [rot_left (by omega) (by omega), rot_left (by omega) (by omega)]
      congr 1
      omega
    · by_cases hj : j < k ∨ m + 1 ≤ j
      · rw [rot_out (by omega) (by omega) (by omega), rot_out (by omega) (by omega) hj]
      · rw [rot_right (by omega) (by omega), rot_right (by omega) (by omega)]
/-- Two runs of one length change places. -/
def swr (g : Nat → α) (a b n : Nat) : Nat → α := fun j => if a ≤ j ∧ j < a + n then g (j + (b - a)) else if b ≤ j ∧ j < b + n then g (j - (b - a)) else g j
theorem swr_zero {g : Nat → α} {a b : Nat} : swr g a b 0 = g := by
  funext j
  unfold swr
  rw [if_neg (by omega), if_neg (by omega)]
theorem swr_step {g : Nat → α} {a b n : Nat} (h : a + (n + 1) ≤ b) : swp (swr g a b n) (a + n) (b + n) = swr g a b (n + 1) := by
  funext j
  unfold swp swr
  by_cases h1 : j = a + n
  · subst h1
    rw [if_pos rfl, if_neg (by omega), if_neg (by omega), if_pos (by omega)]
    congr 1
    omega
  · rw [if_neg h1]
    by_cases h2 : j = b + n
    · subst h2
      rw [if_pos rfl, if_neg (by omega), if_neg (by omega), if_neg (by omega), if_pos (by omega)]
      congr 1
      omega
    · rw [if_neg h2]
      by_cases h3 : a ≤ j ∧ j < a + n
      · rw [if_pos h3, if_pos (by omega)]
      · rw [if_neg h3]
        by_cases h4 : b ≤ j ∧ j < b + n
        · rw [if_pos h4, if_neg (by omega), if_pos (by omega)]
        · rw [if_neg h4, if_neg (by omega), if_neg (by omega)]
theorem rot_big {g : Nat → α} {m i j : Nat} (h : j < i) (hi : i ≤ m) : rot (swr g (m - i) m j) (m - (i - j)) m (m + j) = rot g (m - i) m (m + j) := by
  funext t
  by_cases h1 : t < m - i ∨ m + j ≤ t
  · rw [rot_out (by omega) (by omega) (by omega), rot_out (by omega) (by omega) h1]
    unfold swr
    rw [if_neg (by omega), if_neg (by omega)]
  · by_cases h2 : t < m - i + j
    · rw [rot_out (by omega) (by omega) (by omega), rot_left (by omega) (by omega)]
      unfold swr
      rw [if_pos (by omega)]
    · rw [rot_right (g := g) (by omega) (by omega)]
      by_cases h3 : t < m - (i - j) + j
      · rw [rot_left (by omega) (by omega)]
        unfold swr
        rw [if_neg (by omega), if_pos (by omega)]
        congr 1
        omega
      · rw [rot_right (by omega) (by omega)]
        unfold swr
        rw [if_neg (by omega), if_neg (by omega)]
theorem rot_small {g : Nat → α} {m i j : Nat} (h : i < j) (hi : i ≤ m) : rot (swr g (m - i) (m + j - i) i) (m - i) m (m + (j - i)) = rot g (m - i) m (m + j) := by
  funext t
  by_cases h1 : t < m - i ∨ m + j ≤ t
  · rw [rot_out (by omega) (by omega) (by omega), rot_out (by omega) (by omega) h1]
    unfold swr
    rw [if_neg (by omega), if_neg (by omega)]
  · by_cases h2 : t < m - i + (j - i)
    · rw [rot_left (by omega) (by omega), rot_left (by omega) (by omega)]
      unfold swr
      rw [if_neg (by omega), if_neg (by omega)]
    · by_cases h3 : t < m - i + j
      · rw [rot_left (g := g) (by omega) (by omega), rot_right (by omega) (by omega)]
        unfold swr
        rw [if_pos (by omega)]
        congr 1
        omega
      · rw [rot_right (g := g) (by omega) (by omega), rot_out (by omega) (by omega) (by omega)]
        unfold swr
        rw [if_neg (by omega), if_pos (by omega)]
        congr 1
        omega
theorem rot_even {g : Nat → α} {m i : Nat} (hi : i ≤ m) : swr g (m - i) m i = rot g (m - i) m (m + i) := by
  funext t
  unfold swr
  by_cases h1 : t < m - i ∨ m + i ≤ t
  · rw [rot_out (by omega) (by omega) h1, if_neg (by omega), if_neg (by omega)]
  · by_cases h2 : t < m
    · rw [rot_left (by omega) (by omega), if_pos (by omega)]
    · rw [rot_right (by omega) (by omega), if_neg (by omega), if_pos (by omega)]
      congr 1
      omega

variable (key : α → Int)
def filt (c : Int) (l : List α) : List α := l.filter fun x => decide (key x = c)
theorem filt_append (c : Int) (l m : List α) : filt key c (l ++ m) = filt key c l ++ filt key c m := List.filter_append _ _
theorem filt_swap {c : Int} {X Y : List α} (h : ∀ x ∈ X, ∀ y ∈ Y, key y < key x) : filt key c (Y ++ X) = filt key c (X ++ Y) := by
  rw [filt_append, filt_append]
  by_cases hx : ∃ x ∈ X, key x = c
  · obtain ⟨x, hx, hk⟩ := hx
    have : filt key c Y = [] := by
      unfold filt
      rw [List.filter_eq_nil_iff]
      intro y hy
      have := h x hx y hy
      simp
      omega
    rw [this]
    simp
  · have : filt key c X = [] := by
      unfold filt
      rw [List.filter_eq_nil_iff]
      intro x hx'
      simp
      exact fun hk => hx ⟨x, hx', hk⟩
    rw [this]
    simp
/-- The same things, equal ones as they stood; elsewhere nothing new. -/
def SameF (a b : Nat) (g g' : Nat → α) : Prop := (∀ j, j < a ∨ b ≤ j → g' j = g j) ∧ ∀ c, filt key c (sgm g' a b) = filt key c (sgm g a b)
theorem SameF.refl (a b : Nat) (g : Nat → α) : SameF key a b g g := ⟨fun _ _ => rfl, fun _ => rfl⟩
variable {key}
theorem SameF.trans {a b : Nat} {g g' g'' : Nat → α} (h : SameF key a b g g') (h' : SameF key a b g' g'') : SameF key a b g g'' :=
  ⟨fun j hj => (h'.1 j hj).trans (h.1 j hj), fun c => (h'.2 c).trans (h.2 c)⟩
theorem SameF.wide {a b a' b' : Nat} {g g' : Nat → α} (h : SameF key a b g g') (h1 : a' ≤ a) (h2 : a ≤ b) (h3 : b ≤ b') : SameF key a' b' g g' := by
  refine ⟨fun j hj => h.1 j (by omega), fun c => ?_⟩
  rw [sgm_split (g := g') (m := a) h1 (by omega), sgm_split (g := g') (a := a) (m := b) h2 h3, sgm_split (g := g) (m := a) h1 (by omega), sgm_split (g := g) (a := a) (m := b) h2 h3]
  simp only [filt_append]
  rw [h.2 c, sgm_congr (g := g) (g' := g') (a := a') (b := a) fun j _ hj => h.1 j (.inl hj), sgm_congr (g := g) (g' := g') (a := b) (b := b') fun j hj _ => h.1 j (.inr hj)]
theorem SameF.mem {a b : Nat} {g g' : Nat → α} (h : SameF key a b g g') {j : Nat} (h1 : a ≤ j) (h2 : j < b) : ∃ i, a ≤ i ∧ i < b ∧ g i = g' j := by
  have h3 : g' j ∈ filt key (key (g' j)) (sgm g' a b) := List.mem_filter.2 ⟨mem_sgm.2 ⟨j, h1, h2, rfl⟩, by simp⟩
  rw [h.2] at h3
  exact mem_sgm.1 (List.mem_filter.1 h3).1
theorem SameF.rot {a m b : Nat} {g : Nat → α} (h1 : a ≤ m) (h2 : m ≤ b) (h : ∀ i j, a ≤ i → i < m → m ≤ j → j < b → key (g j) < key (g i)) : SameF key a b g (rot g a m b) := by
  refine ⟨fun j hj => rot_out h1 h2 hj, fun c => ?_⟩
  rw [sgm_rot h1 h2, sgm_split h1 h2]
  refine filt_swap key fun x hx y hy => ?_
  obtain ⟨i, i1, i2, rfl⟩ := mem_sgm.1 hx
  obtain ⟨j, j1, j2, rfl⟩ := mem_sgm.1 hy
  exact h i j i1 i2 j1 j2
variable (key)
def SortF (a b : Nat) (g : Nat → α) : Prop := ∀ i j, a ≤ i → i ≤ j → j < b → key (g i) ≤ key (g j)
variable {key}
/-- A rotation that sorts. -/
theorem rot_sorted {a s m e b : Nat} {g : Nat → α} (hs : a ≤ s) (hsm : s ≤ m) (hme : m ≤ e) (heb : e ≤ b) (hA : SortF key a m g) (hB : SortF key m b g)
    (h1 : ∀ i k, a ≤ i → i < s → m ≤ k → k < e → key (g i) ≤ key (g k)) (h2 : ∀ i k, s ≤ i → i < m → m ≤ k → k < e → key (g k) < key (g i)) (h3 : ∀ i k, s ≤ i → i < m → e ≤ k → k < b → key (g i) ≤ key (g k)) (h4 : ∀ i k, a ≤ i → i < s → e ≤ k → k < b → key (g i) ≤ key (g k)) : SortF key a b (rot g s m e) := by
  intro i j hi hij hj
  by_cases i1 : i < s
  · rw [rot_out (j := i) hsm hme (.inl i1)]
    by_cases j1 : j < s
    · rw [rot_out hsm hme (.inl j1)]; exact hA i j hi hij (by omega)
    · by_cases j2 : j < s + (e - m)
      · rw [rot_left (by omega) j2]; exact h1 i _ hi i1 (by omega) (by omega)
      · by_cases j3 : j < e
        · rw [rot_right (by omega) j3]; exact hA i _ hi (by omega) (by omega)
        · rw [rot_out hsm hme (.inr (by omega))]; exact h4 i j hi i1 (by omega) hj
  · by_cases i2 : i < s + (e - m)
    · rw [rot_left (j := i) (by omega) i2]
      by_cases j2 : j < s + (e - m)
      · rw [rot_left (by omega) j2]; exact hB _ _ (by omega) (by omega) (by omega)
      · by_cases j3 : j < e
        · rw [rot_right (by omega) j3]; exact Int.le_of_lt (h2 _ _ (by omega) (by omega) (by omega) (by omega))
        · rw [rot_out hsm hme (.inr (by omega))]; exact hB _ _ (by omega) (by omega) hj
    · by_cases i3 : i < e
      · rw [rot_right (j := i) (by omega) i3]
        by_cases j3 : j < e
        · rw [rot_right (by omega) j3]; exact hA _ _ (by omega) (by omega) (by omega)
        · rw [rot_out hsm hme (.inr (by omega))]; exact h3 _ _ (by omega) (by omega) (by omega) hj
      · rw [rot_out (j := i) hsm hme (.inr (by omega)), rot_out hsm hme (.inr (by omega))]; exact hB i j (by omega) hij hj
/-- What a step of a merge leaves: left all that is no greater than what is right. -/
theorem cross {a s m e b : Nat} {g : Nat → α} (hs : a ≤ s) (hsm : s ≤ m) (hme : m ≤ e) (heb : e ≤ b) (hA : SortF key a m g) (hB : SortF key m b g)
    (h1 : s = a ∨ e = b ∨ key (g (s - 1)) ≤ key (g e)) (h2 : s = m ∨ e = m ∨ key (g (e - 1)) < key (g s)) : ∀ i j, a ≤ i → i < s + (e - m) → s + (e - m) ≤ j → j < b → key (rot g s m e i) ≤ key (rot g s m e j) := by
  intro i j hi hi2 hj hj2
  by_cases i1 : i < s
  · rw [rot_out (j := i) hsm hme (.inl i1)]
    by_cases j3 : j < e
    · rw [rot_right (by omega) j3]; exact hA i _ hi (by omega) (by omega)
    · rw [rot_out hsm hme (.inr (by omega))]
      have k1 := hA i (s - 1) hi (by omega) (by omega)
      have k2 := hB e j (by omega) (by omega) hj2
      omega
  · rw [rot_left (j := i) (by omega) hi2]
    by_cases j3 : j < e
    · rw [rot_right (by omega) j3]
      have k1 := hB (i + (m - s)) (e - 1) (by omega) (by omega) (by omega)
      have k2 := hA s (j - (e - m)) (by omega) (by omega) (by omega)
      omega
    · rw [rot_out hsm hme (.inr (by omega))]; exact hB _ _ (by omega) (by omega) hj2
theorem cross_rot {s m e : Nat} {a b : Nat} {g : Nat → α} (hs : a ≤ s) (hsm : s ≤ m) (hme : m ≤ e) (heb : e ≤ b) (hA : SortF key a m g) (hB : SortF key m b g) (h2 : s = m ∨ e = m ∨ key (g (e - 1)) < key (g s)) : SameF key a b g (rot g s m e) := by
  refine (SameF.rot hsm hme fun i j i1 i2 j1 j2 => ?_).wide hs (by omega) heb
  have k1 := hB j (e - 1) (by omega) (by omega) (by omega)
  have k2 := hA s i (by omega) (by omega) (by omega)
  omega
/-- Two sorted halves, the left one no greater than the right one. -/
theorem halves {a mid b : Nat} {g1 g2 g3 : Nat → α} (ham : a ≤ mid) (hmb : mid ≤ b) (hc : ∀ i j, a ≤ i → i < mid → mid ≤ j → j < b → key (g1 i) ≤ key (g1 j)) (hL : SameF key a mid g1 g2) (hLs : SortF key a mid g2) (hR : SameF key mid b g2 g3) (hRs : SortF key mid b g3) : SameF key a b g1 g3 ∧ SortF key a b g3 := by
  refine ⟨(hL.wide (Nat.le_refl _) ham hmb).trans (hR.wide ham hmb (Nat.le_refl _)), ?_⟩
  intro i j hi hij hj
  by_cases i1 : i < mid
  · rw [hR.1 i (.inl i1)]
    by_cases j1 : j < mid
    · rw [hR.1 j (.inl j1)]; exact hLs i j hi hij j1
    · obtain ⟨p, p1, p2, p3⟩ := hL.mem hi i1
      obtain ⟨q, q1, q2, q3⟩ := hR.mem (show mid ≤ j by omega) hj
      rw [← p3, ← q3, hL.1 q (.inr q1)]
      exact hc p q p1 p2 q1 q2
  · exact hRs i j (by omega) hij hj
end
end Go.Proofs
