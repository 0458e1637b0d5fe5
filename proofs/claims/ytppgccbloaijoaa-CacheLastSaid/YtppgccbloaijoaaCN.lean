/- The law CacheRoom: plain part. -/
import Derived.Test.YtppgccbloaijoaaCM
namespace Go.Proofs
set_option linter.unusedVariables false
set_option linter.unusedSimpArgs false
set_option linter.unusedSectionVars false
open Go Go.SX Go.RowKit Go.Ring

def fIt (k : Nat) : It := itm k (k + 1) k

theorem findL_map {K : List Nat} {k : Nat} : findL (k : Int) (K.map fIt) = if k ∈ K then some (fIt k) else none := by
  unfold findL
  induction K with
  | nil => rfl
  | cons z r ih =>
    simp only [List.map_cons, List.find?_cons, ih]
    by_cases h : z = k
    · subst h; simp [fIt, itm]
    · have : ((z : Int) == (k : Int)) = false := by simp; omega
      simp [fIt, itm, this, Ne.symm h]

theorem othersL_map {K : List Nat} {k : Nat} : othersL (k : Int) (K.map fIt) = (K.filter fun x => x ≠ k).map fIt := by
  unfold othersL
  induction K with
  | nil => rfl
  | cons z r ih =>
    simp only [List.map_cons, List.filter_cons, ih]
    by_cases h : z = k
    · subst h; simp [fIt, itm]
    · have : ((z : Int) ≠ (k : Int)) := by omega
      simp [fIt, itm, h, this]

def downN (k : Nat) : List Nat := (List.range k).reverse

theorem downN_succ (k : Nat) : downN (k + 1) = k :: downN k := by simp [downN, List.range_succ]
theorem downN_mem {k x : Nat} : x ∈ downN k ↔ x < k := by simp [downN]
theorem downN_nodup (k : Nat) : (downN k).Nodup := by
  unfold downN
  exact nodup_rev List.nodup_range
theorem downN_len (k : Nat) : (downN k).length = k := by simp [downN]

theorem put_down {m k : Nat} (h : k < m) : putL (m : Int) ((downN k).map fIt) (itm k (k + 1) k) = (downN (k + 1)).map fIt := by
  have h1 : findL (k : Int) ((downN k).map fIt) = none := by
    rw [findL_map, if_neg]
    rw [downN_mem]; omega
  unfold putL
  show (match findL (k : Int) ((downN k).map fIt) with | none => _ | some x => _) = _
  rw [h1]
  simp only [trimL, downN_succ, List.length_cons, List.length_map, downN_len]
  rw [if_neg (by omega)]
  rfl

/-- The order behind k Gets. -/
def mixN (m k : Nat) : List Nat := downN k ++ (downN m).filter fun x => k ≤ x

theorem mixN_zero (m : Nat) : mixN m 0 = downN m := by simp [mixN, downN]
theorem mixN_mem {m k x : Nat} (h : k ≤ m) : x ∈ mixN m k ↔ x < m := by
  simp only [mixN, List.mem_append, List.mem_filter, downN_mem, decide_eq_true_eq]; omega
theorem mixN_full (m : Nat) : mixN m m = downN m := by
  have : (downN m).filter (fun x => decide (m ≤ x)) = [] := by
    rw [List.filter_eq_nil_iff]
    intro x hx
    have := downN_mem.1 hx
    simp; omega
  simp [mixN, this]

theorem mixN_succ (m k : Nat) : k :: (mixN m k).filter (fun x => x ≠ k) = mixN m (k + 1) := by
  unfold mixN
  rw [List.filter_append, List.filter_filter, downN_succ, List.cons_append]
  congr 2
  · rw [List.filter_eq_self]
    intro x hx
    have := downN_mem.1 hx
    simp; omega
  · apply List.filter_congr
    intro x hx
    by_cases h : k + 1 ≤ x
    · simp [h]; omega
    · simp [h]; omega

theorem get_mix {m k : Nat} : fIt k :: othersL (k : Int) ((mixN m k).map fIt) = (mixN m (k + 1)).map fIt := by
  rw [othersL_map, ← mixN_succ]; rfl

def firstN (j : Nat) : Nat := if j = 0 then 1 else 0

theorem down_split (m j : Nat) (hm : 2 ≤ m) : ∃ F : List Nat, (downN m).filter (fun x => x ≠ j) = F ++ [firstN j] := by
  obtain ⟨n, rfl⟩ : ∃ n, m = n + 2 := ⟨m - 2, by omega⟩
  have e : downN (n + 2) = ((List.range n).map fun x => x + 2).reverse ++ [1, 0] := by
    unfold downN
    rw [List.range_succ_eq_map, List.range_succ_eq_map]
    simp [Function.comp_def]
  rw [e, List.filter_append]
  by_cases h : j = 0
  · subst h
    exact ⟨_, by simp [firstN]; rfl⟩
  · by_cases h1 : j = 1
    · subst h1
      exact ⟨_, by simp [firstN]; rfl⟩
    · refine ⟨((List.range n).map fun x => x + 2).reverse.filter (fun x => x ≠ j) ++ [1], ?_⟩
      have h0 : (0 : Nat) ≠ j := fun e => h e.symm
      have h2 : (1 : Nat) ≠ j := fun e => h1 e.symm
      simp [firstN, h, h0, h2]

/-- What is there when the ring is over full. -/
theorem room_end (m j : Nat) (hm : 2 ≤ m) (hj : j < m) : ∃ F : List Nat, firstN j ∉ F ∧ firstN j ≠ j ∧ firstN j < m ∧ j ∉ F ∧ (∀ x ∈ F, x < m) ∧ F.length + 2 = m ∧
    putL (m : Int) (fIt j :: othersL (j : Int) ((downN m).map fIt)) (itm m 1 9) = itm m 1 9 :: (j :: F).map fIt := by
  obtain ⟨F, hF⟩ := down_split m j hm
  have nd : ((downN m).filter (fun x => x ≠ j)).Nodup := (downN_nodup m).filter _
  have hmem : ∀ x, x ∈ F ++ [firstN j] ↔ x < m ∧ x ≠ j := by
    intro x
    rw [← hF]
    simp [downN_mem]
  have hlen : (F ++ [firstN j]).length + 1 = m := by
    have h1 : (downN m).Perm (j :: (F ++ [firstN j])) := by
      rw [List.perm_ext_iff_of_nodup (downN_nodup m)]
      · intro x
        rw [downN_mem, List.mem_cons, hmem]
        omega
      · rw [List.nodup_cons]
        refine ⟨fun h => ((hmem j).1 h).2 rfl, by rw [← hF]; exact nd⟩
    have := h1.length_eq
    rw [downN_len, List.length_cons] at this
    exact this.symm
  rw [hF] at nd
  have nd2 := List.nodup_append.1 nd
  have hfm := (hmem (firstN j)).1 (by simp)
  refine ⟨F, fun h => nd2.2.2 _ h _ (by simp) rfl, hfm.2, hfm.1, fun h => ((hmem j).1 (by simp [h])).2 rfl, fun x hx => ((hmem x).1 (by simp [hx])).1, by simp at hlen; omega, ?_⟩
  rw [othersL_map, hF]
  have h1 : findL (m : Int) (fIt j :: (F ++ [firstN j]).map fIt) = none := by
    rw [← List.map_cons, findL_map, if_neg]
    rw [List.mem_cons, hmem]
    omega
  unfold putL
  show (match findL (m : Int) (fIt j :: (F ++ [firstN j]).map fIt) with | none => _ | some x => _) = _
  rw [h1]
  simp only [trimL, List.length_cons, List.length_map]
  rw [if_pos (by simp at hlen ⊢; omega)]
  simp
  rw [← List.cons_append, List.dropLast_concat]

theorem room_none (m j : Nat) {F : List Nat} (h1 : firstN j ∉ F) (h2 : firstN j ≠ j) (h3 : firstN j < m) : findL (firstN j : Int) (itm m 1 9 :: (j :: F).map fIt) = none := by
  have : findL (firstN j : Int) (itm m 1 9 :: (j :: F).map fIt) = findL (firstN j : Int) ((j :: F).map fIt) := by
    unfold findL
    rw [List.find?_cons]
    have : ((itm m 1 9).lba == (firstN j : Int)) = false := by simp [itm]; omega
    rw [this]
  rw [this, findL_map, if_neg]
  simp [h1, h2]

theorem room_some (m j : Nat) {F : List Nat} (h : j < m) : findL (j : Int) (itm m 1 9 :: (j :: F).map fIt) = some (fIt j) := by
  have : findL (j : Int) (itm m 1 9 :: (j :: F).map fIt) = findL (j : Int) ((j :: F).map fIt) := by
    unfold findL
    rw [List.find?_cons]
    have : ((itm m 1 9).lba == (j : Int)) = false := by simp [itm]; omega
    rw [this]
  rw [this, findL_map, if_pos (by simp)]

theorem room_len (m j : Nat) {F : List Nat} (h1 : j ∉ F) (h2 : j < m) : (fIt j :: othersL (j : Int) (itm m 1 9 :: (j :: F).map fIt)).length = F.length + 2 := by
  have : othersL (j : Int) (itm m 1 9 :: (j :: F).map fIt) = itm m 1 9 :: F.map fIt := by
    have e := othersL_map (K := j :: F) (k := j)
    unfold othersL at e ⊢
    rw [List.filter_cons, e]
    have : (itm m 1 9).lba ≠ (j : Int) := by simp [itm]; omega
    simp only [ne_eq, this, not_false_eq_true, decide_true, if_true]
    congr 2
    rw [List.filter_cons]
    simp
    exact fun x hx e => h1 (e ▸ hx)
  rw [this]
  simp
end Go.Proofs
