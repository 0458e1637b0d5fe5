/- Requests: what Done does, in plain words. -/
import Derived.Test.YtffooiccklfhlaaNE
namespace Go.Proofs
set_option linter.unusedVariables false
set_option linter.unusedSimpArgs false
set_option linter.unusedSectionVars false
open Go Go.SX Go.RowKit

theorem ofN_iff {L : List Sen} (hp : L.Pairwise (fun x y => x.frm < y.frm)) {g : Int} {t : Sen} : ofN L g = some t ↔ t ∈ L ∧ t.frm = g :=
  ⟨ofN_some, fun h => h.2 ▸ ofN_mem hp h.1⟩
theorem ansS_iff {S : List Sad} (hp : S.Pairwise (fun x y => x.id < y.id)) {g : Int} {t : Sad} : ansS S g = some t ↔ t ∈ S ∧ t.id = g :=
  ⟨ansS_some, fun h => h.2 ▸ ansS_mem hp h.1⟩

/-- One who is known anew. -/
def newN (f : Int) : Sen := ⟨f, 0, none, 0, []⟩
/-- The list that has one who asks, and its place. -/
def InsN (L : List Sen) (f : Int) (L1 : List Sen) (k : Nat) (s : Sen) : Prop :=
  k < L1.length ∧ nth sen0 L1 k = s ∧ ((L1 = L ∧ ofN L f = some s) ∨ (ofN L f = none ∧ s = newN f ∧ k ≤ L.length ∧ L1 = L.take k ++ s :: L.drop k ∧ Sn.PlaceP L f k))
/-- One with an answer more. -/
def Upd (s : Sen) (x : Sad) (s' : Sen) : Prop :=
  s'.frm = s.frm ∧ ∃ q, q ≤ s.S.length ∧ Sd.PlaceP s.S x.id q ∧
    (s.S.length < 8 → s'.below = s.below ∧ s'.S = s.S.take q ++ x :: s.S.drop q) ∧
    (8 ≤ s.S.length → s'.below = (nth sad0 (s.S.take q ++ x :: s.S.drop q) 0).id + 1 ∧ s'.S = (s.S.take q ++ x :: s.S.drop q).drop 1)
def getN (L : List Sen) (f : Int) : Sen := (ofN L f).getD (newN f)
structure DoneTo (L : List Sen) (f : Int) (x : Sad) (L' : List Sen) : Prop where
  chk : ChkN (-1) L'
  other : ∀ g, g ≠ f → ofN L' g = ofN L g
  self : ∃ s', ofN L' f = some s' ∧ Upd (getN L f) x s'
  len : L'.length = L.length + (if (ofN L f).isSome then 0 else 1)

theorem insN_chk {L L1 : List Sen} {f : Int} {k : Nat} {s : Sen} (hC : ChkN (-1) L) (hf : 0 ≤ f) (h : InsN L f L1 k s) : ChkN (-1) L1 := by
  obtain ⟨_, _, ⟨rfl, _⟩ | ⟨hno, rfl, hk, rfl, hp⟩⟩ := h
  · exact hC
  · have hC' := chkN_pw.1 hC
    obtain ⟨h1, h2⟩ := hp.2 (chkN_srt hC)
    refine chkN_pw.2 ⟨fun t ht => ?_, ?_⟩
    · rcases List.mem_append.1 ht with ht | ht
      · exact hC'.1 t (List.mem_of_mem_take ht)
      rcases List.mem_cons.1 ht with rfl | ht
      · exact ⟨⟨hf, by simp [newN], by simp [newN], by simp [newN, ChkS]⟩, by show -1 < f; omega⟩
      · exact hC'.1 t (List.mem_of_mem_drop ht)
    · have hlt : ∀ t ∈ L.take k, t.frm < f := fun t ht => by
        obtain ⟨j, hj, rfl⟩ := List.mem_iff_getElem.1 ht
        simp only [List.length_take] at hj
        have := h1 j (by omega)
        rw [nth_lt (by omega)] at this
        simpa using this
      have hgt : ∀ t ∈ L.drop k, f < t.frm := fun t ht => by
        have h3 := ofN_none.1 hno t (List.mem_of_mem_drop ht)
        obtain ⟨j, hj, rfl⟩ := List.mem_iff_getElem.1 ht
        simp only [List.length_drop] at hj
        have := h2 (k + j) (by omega) (by omega)
        rw [nth_lt (by omega)] at this
        simp only [List.getElem_drop] at h3 ⊢
        omega
      rw [List.pairwise_append]
      refine ⟨hC'.2.sublist (List.take_sublist _ _), List.pairwise_cons.2 ⟨hgt, hC'.2.sublist (List.drop_sublist _ _)⟩, fun t ht u hu => ?_⟩
      rcases List.mem_cons.1 hu with rfl | hu
      · exact hlt t ht
      · have h4 := hlt t ht
        have h5 := hgt u hu
        omega

theorem insN_mem {L L1 : List Sen} {f : Int} {k : Nat} {s t : Sen} (h : InsN L f L1 k s) (ht : t.frm ≠ f) : t ∈ L1 ↔ t ∈ L := by
  obtain ⟨_, _, ⟨rfl, _⟩ | ⟨hno, rfl, hk, rfl, hp⟩⟩ := h
  · exact Iff.rfl
  · have : t ∈ L ↔ t ∈ L.take k ∨ t ∈ L.drop k := by
      conv => lhs; rw [← List.take_append_drop k L]
      exact List.mem_append
    rw [this, List.mem_append, List.mem_cons]
    constructor
    · rintro (h | rfl | h)
      · exact .inl h
      · exact absurd rfl ht
      · exact .inr h
    · rintro (h | h)
      · exact .inl h
      · exact .inr (.inr h)

theorem insN_get {L L1 : List Sen} {f : Int} {k : Nat} {s : Sen} (h : InsN L f L1 k s) : getN L f = s ∧ s.frm = f ∧ s ∈ L1 := by
  have hm : s ∈ L1 := h.2.1 ▸ nth_mem h.1
  obtain ⟨_, _, ⟨rfl, h1⟩ | ⟨hno, rfl, hk, rfl, hp⟩⟩ := h
  · exact ⟨by rw [getN, h1]; rfl, (ofN_some h1).2, hm⟩
  · exact ⟨by rw [getN, hno]; rfl, rfl, hm⟩

/-- The answers with one more. -/
theorem upd_pw {s s' : Sen} {x : Sad} (hs : ChkS s.below s.S) (hb : s.below ≤ x.id) (hno : ansS s.S x.id = none) (h : Upd s x s') (hl : s.S.length ≤ 8) (hb0 : 0 ≤ s.below) :
    0 ≤ s'.below ∧ s'.S.length ≤ 8 ∧ ChkS s'.below s'.S := by
  obtain ⟨_, q, hq, hp, hA, hB⟩ := h
  have hS := chkS_pw.1 hs
  obtain ⟨h1, h2⟩ := hp.2 (chkS_srt hs)
  have hlt : ∀ t ∈ s.S.take q, t.id < x.id := fun t ht => by
    obtain ⟨j, hj, rfl⟩ := List.mem_iff_getElem.1 ht
    simp only [List.length_take] at hj
    have := h1 j (by omega)
    rw [nth_lt (by omega)] at this
    simpa using this
  have hgt : ∀ t ∈ s.S.drop q, x.id < t.id := fun t ht => by
    have h3 := ansS_none.1 hno t (List.mem_of_mem_drop ht)
    obtain ⟨j, hj, rfl⟩ := List.mem_iff_getElem.1 ht
    simp only [List.length_drop] at hj
    have := h2 (q + j) (by omega) (by omega)
    rw [nth_lt (by omega)] at this
    simp only [List.getElem_drop] at h3 ⊢
    omega
  have hpw : (s.S.take q ++ x :: s.S.drop q).Pairwise (fun x y => x.id < y.id) := by
    rw [List.pairwise_append]
    refine ⟨hS.2.sublist (List.take_sublist _ _), List.pairwise_cons.2 ⟨hgt, hS.2.sublist (List.drop_sublist _ _)⟩, fun t ht u hu => ?_⟩
    rcases List.mem_cons.1 hu with rfl | hu
    · exact hlt t ht
    · have h4 := hlt t ht
      have h5 := hgt u hu
      omega
  have hbl : ∀ t ∈ s.S.take q ++ x :: s.S.drop q, s.below ≤ t.id := fun t ht => by
    rcases List.mem_append.1 ht with ht | ht
    · exact hS.1 t (List.mem_of_mem_take ht)
    rcases List.mem_cons.1 ht with rfl | ht
    · exact hb
    · exact hS.1 t (List.mem_of_mem_drop ht)
  have hlen : (s.S.take q ++ x :: s.S.drop q).length = s.S.length + 1 := by simp; omega
  by_cases h8 : s.S.length < 8
  · obtain ⟨e1, e2⟩ := hA h8
    rw [e1, e2]
    exact ⟨hb0, by omega, chkS_pw.2 ⟨hbl, hpw⟩⟩
  · obtain ⟨e1, e2⟩ := hB (by omega)
    rw [e1, e2]
    generalize hQ : s.S.take q ++ x :: s.S.drop q = Q at *
    rcases Q with _ | ⟨y, r⟩
    · simp at hlen
    · rw [List.pairwise_cons] at hpw
      have h3 := hbl y List.mem_cons_self
      simp only [nth, List.getD_cons_zero, List.drop_succ_cons, List.drop_zero]
      simp only [List.length_cons] at hlen
      exact ⟨by omega, by omega, chkS_pw.2 ⟨fun t ht => by have := hpw.1 t ht; omega, hpw.2⟩⟩

theorem doneTo_of {L L1 : List Sen} {f : Int} {k : Nat} {s s' : Sen} {x : Sad} (hC : ChkN (-1) L) (hf : 0 ≤ f) (h : InsN L f L1 k s) (hb : s.below ≤ x.id) (hno : ansS s.S x.id = none) (hU : Upd s x s') : DoneTo L f x (L1.set k s') := by
  have hC1 := insN_chk hC hf h
  obtain ⟨hg, hsf, hsm⟩ := insN_get h
  have h1 := chkN_pw.1 hC1
  obtain ⟨hos, _⟩ := h1.1 s hsm
  obtain ⟨u1, u2, u3⟩ := upd_pw hos.2.2.2 hb hno hU hos.2.2.1 hos.2.1
  have hsf' : s'.frm = f := hU.1.trans hsf
  have hks : L1[k]'h.1 = s := by rw [← nth_lt (d := sen0) h.1]; exact h.2.1
  have hpw : (L1.set k s').Pairwise (fun x y => x.frm < y.frm) := by
    rw [List.pairwise_iff_getElem] at h1 ⊢
    intro i j hi hj hij
    simp only [List.length_set] at hi hj
    have := h1.2 i j hi hj hij
    simp only [List.getElem_set]
    split
    · rename_i e
      subst e
      rw [if_neg (by omega)]
      rw [hsf', ← hsf, ← hks]; exact this
    · split
      · rename_i e
        subst e
        rw [hsf', ← hsf, ← hks]; exact this
      · exact this
  have hmem : ∀ t, t ∈ L1.set k s' → t = s' ∨ t ∈ L1 := fun t ht => (List.mem_or_eq_of_mem_set ht).symm
  have hmem' : ∀ t, t.frm ≠ f → t ∈ L1 → t ∈ L1.set k s' := fun t htf ht => by
    obtain ⟨j, hj, rfl⟩ := List.mem_iff_getElem.1 ht
    have hjk : k ≠ j := fun e => by subst e; exact htf (by rw [hks]; exact hsf)
    exact List.mem_iff_getElem.2 ⟨j, by simpa using hj, by rw [List.getElem_set_ne hjk]⟩
  have hs'm : s' ∈ L1.set k s' := List.mem_iff_getElem.2 ⟨k, by simpa using h.1, by simp⟩
  refine ⟨chkN_pw.2 ⟨fun t ht => ?_, hpw⟩, fun g hgf => ?_, ⟨s', ?_, by rw [hg]; exact hU⟩, ?_⟩
  · rcases hmem t ht with rfl | ht
    · exact ⟨⟨by omega, u1, u2, u3⟩, by omega⟩
    · exact h1.1 t ht
  · apply Option.ext
    intro t
    rw [ofN_iff hpw, ofN_iff (chkN_pw.1 hC).2]
    constructor
    · rintro ⟨a, rfl⟩
      rcases hmem t a with rfl | a
      · exact absurd hsf' hgf
      · exact ⟨(insN_mem h hgf).1 a, rfl⟩
    · rintro ⟨a, rfl⟩
      exact ⟨hmem' t hgf ((insN_mem h hgf).2 a), rfl⟩
  · exact (ofN_iff hpw).2 ⟨hs'm, hsf'⟩
  · rw [List.length_set]
    obtain ⟨_, _, ⟨rfl, e⟩ | ⟨e, rfl, hk, rfl, hp⟩⟩ := h
    · rw [e]; simp
    · rw [e]; simp; omega
end Go.Proofs
