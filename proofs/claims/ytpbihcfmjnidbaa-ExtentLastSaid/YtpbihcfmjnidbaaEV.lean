/- ExtentLast, the plain law: what the map of blocks is, as a function of a list of extents. -/
import Derived.Test.YtpbihcfmjnidbaaERl
namespace Go.Proofs
set_option linter.unusedVariables false
set_option linter.unusedSimpArgs false
open Go Go.SX Go.RowKit

def cellB (t : Int × Int × Int) : SV := .ag (tellB (some t))
def wF (X : List Ext) : Int → Option SV := fun b => (blk X b).map cellB
def wK (X : List Ext) (x : Ext) (k : Nat) : Int → Option SV := fun b => if x.lba ≤ b ∧ b < x.lba + k then some (cellB (tell b x)) else wF X b
def dK (X : List Ext) (c : Int) (k : Nat) : Int → Option SV := fun b => if c ≤ b ∧ b < c + k then none else wF X b

theorem wK_zero {X : List Ext} {x : Ext} : wK X x 0 = wF X := by
  funext b
  unfold wK
  rw [if_neg (by omega)]
theorem dK_zero {X : List Ext} {c : Int} : dK X c 0 = wF X := by
  funext b
  unfold dK
  rw [if_neg (by omega)]

theorem wK_upd {X : List Ext} {x : Ext} {k : Nat} {y : SV} (hy : y = cellB (tell (x.lba + k) x)) : updFn (wK X x k) (x.lba + k) y = wK X x (k + 1) := by
  subst hy
  funext b
  unfold updFn wK
  by_cases h : b = x.lba + k
  · rw [if_pos h, if_pos (by omega), h]
  · rw [if_neg h]
    by_cases h2 : x.lba ≤ b ∧ b < x.lba + k
    · rw [if_pos h2, if_pos (by omega)]
    · rw [if_neg h2, if_neg (by omega)]

theorem dK_del {X : List Ext} {c : Int} {k : Nat} : delFn (dK X c k) (c + k) = dK X c (k + 1) := by
  funext b
  unfold delFn dK
  by_cases h : b = c + k
  · rw [if_pos h, if_pos (by omega)]
  · rw [if_neg h]
    by_cases h2 : c ≤ b ∧ b < c + k
    · rw [if_pos h2, if_pos (by omega)]
    · rw [if_neg h2, if_neg (by omega)]

/-- All blocks lie below 250. -/
def Lo (X : List Ext) : Prop := ∀ b t, Has X b t → b < 250

theorem lo_nil : Lo [] := fun _ _ h => absurd h Has.nil

theorem lo_end {X : List Ext} (h : Lo X) (hm : AllMay X) {e : Ext} (he : e ∈ X) : e.lba + e.n ≤ 250 := by
  have h1 := hm e he
  unfold May at h1
  have := h (e.lba + e.n - 1) _ ⟨e, he, ⟨by omega, by omega⟩, rfl⟩
  omega

theorem few_sep : ∀ (X : List Ext) (lo : Int), AllMay X → X.Pairwise Sep → (∀ e ∈ X, lo ≤ e.lba ∧ e.lba + e.n ≤ 250) → X ≠ [] → (X.length : Int) + lo ≤ 250
  | [], _, _, _, _, h => absurd rfl h
  | e :: r, lo, hm, hs, hb, _ => by
    have h1 := hm e (by simp)
    unfold May at h1
    have h2 := hb e (by simp)
    rcases r with _ | ⟨f, r⟩
    · simp only [List.length_cons, List.length_nil]
      omega
    · rw [List.pairwise_cons] at hs
      have := few_sep (f :: r) (e.lba + e.n) (fun x hx => hm x (by simp [hx])) hs.2 (fun x hx => ⟨hs.1 x hx, (hb x (by simp [hx])).2⟩) (by simp)
      simp only [List.length_cons] at this ⊢
      omega

theorem lo_len {X : List Ext} (hC : Chk X) (h : Lo X) : X.length ≤ 250 := by
  rcases X with _ | ⟨e, r⟩
  · simp
  · have := few_sep (e :: r) 0 hC.all hC.sep (fun x hx => ⟨by have := hC.all x hx; unfold May at this; omega, lo_end h hC.all hx⟩) (by simp)
    omega

theorem put_has {X M : List Ext} {x : Ext} (hC : Chk X) (hx : May x) (hP : PutsTo X [x] M) (b : Int) (t : Int × Int × Int) : Has (joinE M) b t ↔ (In b x ∧ t = tell b x) ∨ (¬ In b x ∧ Has X b t) := by
  have hm : AllMay [x] := by simpa [AllMay] using hx
  obtain ⟨_, _, j3⟩ := join_good (hP.good hC hm).1
  rw [j3, hP.has hC hm]
  by_cases h : In b x
  · have : hasB b x = true := decide_eq_true h
    simp [List.find?_cons, this, h]
  · have : hasB b x = false := decide_eq_false h
    simp [List.find?_cons, this, h]

theorem put_lo {X M : List Ext} {x : Ext} (hC : Chk X) (hl : Lo X) (hx : May x) (hP : PutsTo X [x] M) (h1 : x.lba ≤ 200) (h2 : x.n ≤ 50) : Lo (joinE M) := by
  intro b t h
  rcases (put_has hC hx hP b t).1 h with ⟨h, _⟩ | ⟨_, h⟩
  · have := h.2
    omega
  · exact hl b t h

theorem put_wF {X M : List Ext} {x : Ext} (hC : Chk X) (hx : May x) (hP : PutsTo X [x] M) {k : Nat} (hk : (k : Int) = x.n) : wK X x k = wF (joinE M) := by
  have hm : AllMay [x] := by simpa [AllMay] using hx
  obtain ⟨j1, _, _⟩ := join_good (hP.good hC hm).1
  funext b
  unfold wK
  rw [hk]
  by_cases h : In b x
  · rw [if_pos (show x.lba ≤ b ∧ b < x.lba + x.n from h)]
    unfold wF
    rw [(blk_has j1.sep).2 ((put_has hC hx hP b _).2 (.inl ⟨h, rfl⟩))]
    rfl
  · rw [if_neg (show ¬ (x.lba ≤ b ∧ b < x.lba + x.n) from h)]
    unfold wF
    rw [blk_ext hC.sep j1.sep fun t => ?_]
    rw [put_has hC hx hP]
    exact ⟨fun h' => .inr ⟨h, h'⟩, fun h' => h'.elim (fun h' => absurd h'.1 h) fun h' => h'.2⟩

theorem cut_has {X : List Ext} {c : Int} {i k : Nat} (hC : Chk X) (hP : PartIK X c 3 i k) (b : Int) (t : Int × Int × Int) : Has (replL X c 3 [] i k) b t ↔ ¬ (c ≤ b ∧ b < c + 3) ∧ Has X b t := by
  rw [repl_has hC hP (.inl rfl)]
  exact ⟨fun h => h.elim (fun h => absurd h.2.2 Has.nil) id, .inr⟩

theorem cut_facts {X : List Ext} {c : Int} {i k : Nat} (hC : Chk X) (hB : Blocks c 3) (hl : Lo X) (hP : PartIK X c 3 i k) : Chk (replL X c 3 [] i k) ∧ Lo (replL X c 3 [] i k) ∧ dK X c 3 = wF (replL X c 3 [] i k) := by
  have hk : Chk (replL X c 3 [] i k) := repl_chk hC hB hP (.inl rfl)
  refine ⟨hk, fun b t h => hl b t ((cut_has hC hP b t).1 h).2, ?_⟩
  funext b
  unfold dK
  by_cases h : c ≤ b ∧ b < c + (3 : Nat)
  · rw [if_pos h]
    unfold wF
    rw [(blk_none hk.sep).2 fun t ht => ((cut_has hC hP b t).1 ht).1 h]
    rfl
  · rw [if_neg h]
    unfold wF
    rw [blk_ext hC.sep hk.sep fun t => ?_]
    rw [cut_has hC hP]
    exact ⟨fun h' => ⟨h, h'⟩, fun h' => h'.2⟩

theorem wF_keys {X : List Ext} (hC : Chk X) (b : Int) : (wF X b).isSome = true ↔ b ∈ blks X := by
  rw [mem_blks]
  unfold wF
  rw [Option.isSome_map]
  constructor
  · intro h
    obtain ⟨t, ht⟩ := Option.isSome_iff_exists.1 h
    exact ⟨t, (blk_has hC.sep).1 ht⟩
  · rintro ⟨t, ht⟩
    rw [(blk_has hC.sep).2 ht]; rfl
end Go.Proofs
