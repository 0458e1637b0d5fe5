/-
  Plain: a ring as a list; what is behind what.
-/
namespace Go.Ring
set_option linter.unusedVariables false
set_option linter.unusedSimpArgs false
set_option linter.unusedSectionVars false

def succL : List Nat → Nat → Option Nat
  | [], _ => none
  | x :: r, b => if x = b then r.head? else succL r b

def predL (L : List Nat) (b : Nat) : Option Nat := succL L.reverse b

theorem succ_not_mem {L : List Nat} {x : Nat} (h : x ∉ L) : succL L x = none := by
  induction L with
  | nil => rfl
  | cons y r ih =>
    simp only [List.mem_cons, not_or] at h
    simp only [succL, if_neg (Ne.symm h.1)]
    exact ih h.2

theorem succ_iff {L : List Nat} (nd : L.Nodup) {x y : Nat} : succL L x = some y ↔ ∃ A C, L = A ++ x :: y :: C := by
  induction L with
  | nil => simp [succL]
  | cons z r ih =>
    have ih := ih (List.nodup_cons.1 nd).2
    have hz := (List.nodup_cons.1 nd).1
    simp only [succL]
    by_cases h : z = x
    · subst h
      simp only [if_true]
      constructor
      · intro h
        cases r with
        | nil => cases h
        | cons q r => simp at h; subst h; exact ⟨[], r, rfl⟩
      · rintro ⟨A, C, h⟩
        cases A with
        | nil => simp at h; simp [h]
        | cons a A => simp at h; exact absurd (by rw [h.2]; simp) hz
    · simp only [if_neg h, ih]
      constructor
      · rintro ⟨A, C, h⟩; exact ⟨z :: A, C, by simp [h]⟩
      · rintro ⟨A, C, h'⟩
        cases A with
        | nil => simp at h'; exact absurd h'.1 h
        | cons a A => simp at h'; exact ⟨A, C, h'.2⟩

theorem succ_none {L : List Nat} (nd : L.Nodup) {x : Nat} (hx : x ∈ L) : succL L x = none ↔ L.getLast? = some x := by
  induction L with
  | nil => cases hx
  | cons z r ih =>
    have ih := ih (List.nodup_cons.1 nd).2
    have hz := (List.nodup_cons.1 nd).1
    simp only [succL]
    by_cases h : z = x
    · subst h
      simp only [if_true]
      cases r with
      | nil => simp
      | cons q r =>
        simp only [List.head?_cons, reduceCtorEq, List.getLast?_cons_cons, false_iff]
        intro h'
        exact hz (List.mem_of_getLast? h')
    · have hr : x ∈ r := by
        rcases List.mem_cons.1 hx with h' | h'
        · exact absurd h'.symm h
        · exact h'
      simp only [if_neg h, ih hr]
      cases r with
      | nil => cases hr
      | cons q r => simp

theorem pred_iff {L : List Nat} (nd : L.Nodup) {x y : Nat} : predL L y = some x ↔ succL L x = some y := by
  unfold predL
  have nr : L.reverse.Nodup := by simpa [List.Nodup, List.pairwise_reverse, ne_comm] using nd
  rw [succ_iff nr, succ_iff nd]
  constructor
  · rintro ⟨A, C, h⟩
    refine ⟨C.reverse, A.reverse, ?_⟩
    have := congrArg List.reverse h
    simpa using this
  · rintro ⟨A, C, h⟩
    exact ⟨C.reverse, A.reverse, by simp [h]⟩

theorem pred_none {L : List Nat} (nd : L.Nodup) {x : Nat} (hx : x ∈ L) : predL L x = none ↔ L.head? = some x := by
  unfold predL
  have nr : L.reverse.Nodup := by simpa [List.Nodup, List.pairwise_reverse, ne_comm] using nd
  rw [succ_none nr (by simpa using hx)]
  simp

theorem succ_mem {L : List Nat} {x y : Nat} (h : succL L x = some y) : y ∈ L := by
  induction L with
  | nil => cases h
  | cons z r ih =>
    simp only [succL] at h
    split at h
    · exact List.mem_cons_of_mem _ (List.mem_of_head? h)
    · exact List.mem_cons_of_mem _ (ih h)

theorem pred_mem {L : List Nat} {x y : Nat} (h : predL L x = some y) : y ∈ L := by
  have := succ_mem h
  simpa using this

theorem succ_ne {L : List Nat} (nd : L.Nodup) {x y : Nat} (h : succL L x = some y) : x ≠ y := by
  obtain ⟨A, C, e⟩ := (succ_iff nd).1 h
  subst e
  rintro rfl
  simp [List.nodup_append] at nd

def del (L : List Nat) (b : Nat) : List Nat := L.filter fun x => x ≠ b

theorem mem_del {L : List Nat} {b x : Nat} : x ∈ del L b ↔ x ∈ L ∧ x ≠ b := by simp [del]
theorem nodup_del {L : List Nat} (nd : L.Nodup) (b : Nat) : (del L b).Nodup := nd.filter _

theorem filter_self {r : List Nat} {b : Nat} (h : b ∉ r) : del r b = r := by
  unfold del
  apply List.filter_eq_self.2
  intro a ha
  simp only [ne_eq, decide_not, Bool.not_eq_true', decide_eq_false_iff_not]
  rintro rfl
  exact h ha

theorem head_del {L : List Nat} (nd : L.Nodup) (b : Nat) : (del L b).head? = if L.head? = some b then succL L b else L.head? := by
  cases L with
  | nil => simp [del]
  | cons z r =>
    have hz := (List.nodup_cons.1 nd).1
    by_cases h : z = b
    · subst h
      rw [show del (z :: r) z = del r z by simp [del], filter_self hz]
      simp [succL]
    · simp [del, h]

theorem succ_del {L : List Nat} (nd : L.Nodup) {b x : Nat} (hx : x ≠ b) : succL (del L b) x = if succL L x = some b then succL L b else succL L x := by
  induction L with
  | nil => simp [succL, del]
  | cons z r ih =>
    have nr := (List.nodup_cons.1 nd).2
    have hz := (List.nodup_cons.1 nd).1
    have ih := ih nr
    by_cases h : z = b
    · subst h
      rw [show del (z :: r) z = del r z by simp [del], filter_self hz]
      have h1 : succL (z :: r) x = succL r x := by simp [succL, Ne.symm hx]
      rw [h1]
      by_cases h2 : succL r x = some z
      · exact absurd (succ_mem h2) hz
      · simp [h2]
    · rw [show del (z :: r) b = z :: del r b by simp [del, h]]
      by_cases h2 : z = x
      · subst h2
        simp only [succL, if_true, if_neg h]
        exact head_del nr b
      · simp only [succL, if_neg h2, if_neg h]
        exact ih

theorem reverse_del (L : List Nat) (b : Nat) : (del L b).reverse = del L.reverse b := by simp [del, List.filter_reverse]

theorem nodup_rev {L : List Nat} (nd : L.Nodup) : L.reverse.Nodup := by simpa [List.Nodup, List.pairwise_reverse, ne_comm] using nd

theorem pred_del {L : List Nat} (nd : L.Nodup) {b x : Nat} (hx : x ≠ b) : predL (del L b) x = if predL L x = some b then predL L b else predL L x := by
  unfold predL
  rw [reverse_del]
  exact succ_del (nodup_rev nd) hx

theorem last_del {L : List Nat} (nd : L.Nodup) (b : Nat) : (del L b).getLast? = if L.getLast? = some b then predL L b else L.getLast? := by
  have := head_del (nodup_rev nd) b
  rw [← reverse_del] at this
  simpa [predL] using this

theorem succ_cons {L : List Nat} {b x : Nat} : succL (b :: L) x = if b = x then L.head? else succL L x := rfl

theorem succ_snoc {K : List Nat} {b x : Nat} (hx : x ∈ K) (nd : K.Nodup) : succL (K ++ [b]) x = if K.getLast? = some x then some b else succL K x := by
  induction K with
  | nil => cases hx
  | cons z r ih =>
    have nr := (List.nodup_cons.1 nd).2
    have hz := (List.nodup_cons.1 nd).1
    simp only [List.cons_append, succL]
    by_cases h : z = x
    · subst h
      simp only [if_true]
      cases r with
      | nil => simp
      | cons q r =>
        rw [List.getLast?_cons_cons, if_neg (fun h' => hz (List.mem_of_getLast? h'))]
        simp
    · have hr : x ∈ r := by
        rcases List.mem_cons.1 hx with h' | h'
        · exact absurd h'.symm h
        · exact h'
      simp only [if_neg h]
      rw [ih hr nr]
      cases r with
      | nil => cases hr
      | cons q r => rw [List.getLast?_cons_cons]

theorem pred_cons {L : List Nat} (nd : L.Nodup) {b x : Nat} (hx : x ∈ L) : predL (b :: L) x = if L.head? = some x then some b else predL L x := by
  unfold predL
  rw [List.reverse_cons, succ_snoc (by simpa using hx) (nodup_rev nd)]
  simp

theorem pred_cons_self {L : List Nat} {b : Nat} (hb : b ∉ L) : predL (b :: L) b = none := by
  unfold predL
  rw [List.reverse_cons]
  have : ∀ K : List Nat, b ∉ K → succL (K ++ [b]) b = none := by
    intro K hK
    induction K with
    | nil => simp [succL]
    | cons z r ih =>
      simp only [List.mem_cons, not_or] at hK
      simp only [List.cons_append, succL, if_neg (Ne.symm hK.1)]
      exact ih hK.2
  exact this _ (by simpa using hb)

theorem pred_succ_ne {L : List Nat} (nd : L.Nodup) {b p q : Nat} (hp : predL L b = some p) (hq : succL L b = some q) : p ≠ q := by
  rintro rfl
  obtain ⟨A, C, e⟩ := (succ_iff nd).1 ((pred_iff nd).1 hp)
  subst e
  have : ∀ A : List Nat, (A ++ p :: b :: C).Nodup → succL (A ++ p :: b :: C) b = C.head? := by
    intro A
    induction A with
    | nil => intro h; simp at h; simp [succL, h.1.1]
    | cons z A ih =>
      intro h
      have hz := (List.nodup_cons.1 h).1
      have : z ≠ b := by rintro rfl; simp at hz
      simp only [List.cons_append, succL, if_neg this]
      exact ih (List.nodup_cons.1 h).2
  rw [this A nd] at hq
  have hm := List.mem_of_head? hq
  have := nd.sublist (List.sublist_append_right A _)
  simp [hm] at this

theorem last_cons {L : List Nat} {b : Nat} : (b :: L).getLast? = match L.getLast? with | some x => some x | none => some b := by
  cases L with
  | nil => rfl
  | cons z r =>
    rw [List.getLast?_cons_cons]
    cases h : (z :: r).getLast? with
    | none => simp at h
    | some x => rfl
end Go.Ring
