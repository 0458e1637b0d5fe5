/-
  Part 6: a region that draws its order: one order serves all, if what may come early yields its value in every world that keeps some facts, and what else is left has no choice. Holds for every program.
-/
import Derived.Test.YtcepnjkcdkkdpaaSx5
namespace Go.SX
set_option linter.unusedVariables false
set_option linter.unusedSimpArgs false
open Go

section
variable {P : Program} {ops : Array Oper} {Q : Exit → Act → World → Prop}

def wpAnyG (P : Program) (ops : Array Oper) (Q : Exit → Act → World → Prop) (A : List Nat) (S : World → Prop) : Nat → Array Bool → Act → World → Prop
  | 0, listed, a, w => Region.ready .any ops listed = [] ∧ Q .normal a w
  | fuel + 1, listed, a, w =>
    (Region.ready .any ops listed = [] → Q .normal a w) ∧
    ∀ i ∈ Region.ready .any ops listed, wpOp P ops Q i (fun a' w' => (i ∈ A → S w → S w') ∧ wpAnyG P ops Q A S fuel (listed.setIfInBounds i true) a' w') a w

theorem wpAny_of_G {A : List Nat} {S : World → Prop} : ∀ (fuel : Nat) (listed : Array Bool) (a : Act) (w : World), wpAnyG P ops Q A S fuel listed a w → wpAny P .any ops Q fuel listed a w
  | 0, _, _, _, h => h
  | fuel + 1, _, _, _, h => ⟨h.1, fun i hi => wpOp_mono (fun a' w' h' => wpAny_of_G fuel _ a' w' h'.2) (h.2 i hi)⟩

/-- What has come up has come up behind all that it waits for. -/
def Closed (ops : Array Oper) (listed : Array Bool) : Prop :=
  ∀ (j : Nat) (o : Oper), ops[j]? = some o → listed.getD j false = true → ∀ e ∈ o.after, Region.binds .any e = true → listed.getD e.on false = true

theorem Closed.add {listed : Array Bool} (h : Closed ops listed) {i : Nat} (hi : i ∈ Region.ready .any ops listed) : Closed ops (listed.setIfInBounds i true) := by
  intro j o ho hj e he hb
  by_cases hji : j = i
  · subst hji
    obtain ⟨_, o', ho', hall⟩ := mem_ready.1 hi
    rw [ho] at ho'
    cases ho'
    exact getD_set_true (hall e he hb)
  · rw [getD_set_ne false (Ne.symm hji)] at hj
    exact getD_set_true (h j o ho hj e he hb)

theorem Closed.none : Closed ops (Array.replicate ops.size false) := by
  intro j o ho hj
  have hlt : j < ops.size := (Array.getElem?_eq_some_iff.1 ho).1
  simp [hlt] at hj

theorem wpAnyG_first {A : List Nat} {S : World → Prop} {Si : World → Prop} {i : Nat} {oi : Oper} {v : Value} (hi : ops[i]? = some oi) (hsel : ∀ (j : Nat) (o : Oper) cs b, ops[j]? = some o → o.op ≠ .select cs b)
    (hQ : ∀ c a w, Q (.panic c) (a.put oi.dst v) w → Q (.panic c) a w)
    (hpres : ∀ j (listed : Array Bool), Closed ops listed → j ∈ Region.ready .any ops listed → listed.getD i true = false → ∀ w w', (j ∈ A → S w → S w') → Si w → Si w') :
    ∀ (fuel : Nat) (listed : Array Bool) (a : Act) (w : World),
      (∀ j oj, ops[j]? = some oj → j ≠ i → listed.getD j true = false → (∀ e ∈ oj.after, Region.binds .any e = true → e.on ≠ i) → oi.apart ops oj = true) →
      Closed ops listed → i ∈ Region.ready .any ops listed → YieldsIf P ops Si oi v a → Si w →
      wpAnyG P ops Q A S fuel (listed.setIfInBounds i true) (a.put oi.dst v) w → wpAnyG P ops Q A S (fuel + 1) listed a w := by
  intro fuel
  induction fuel with
  | zero =>
    intro listed a w _ _ hr hy hS H
    refine ⟨fun h => (by rw [h] at hr; cases hr), fun j hj => ?_⟩
    by_cases hji : j = i
    · subst hji; exact hy.wpOp hi hS ⟨fun _ h => h, H⟩
    · have := ready_mono hj hji
      rw [H.1] at this
      cases this
  | succ fuel ih =>
    intro listed a w hfree hcl hr hy hS H
    refine ⟨fun h => (by rw [h] at hr; cases hr), fun j hj => ?_⟩
    by_cases hji : j = i
    · subst hji; exact hy.wpOp hi hS ⟨fun _ h => h, H⟩
    · have h1 := H.2 j (ready_mono hj hji)
      obtain ⟨hjun, oj, hoj, hall⟩ := mem_ready.1 hj
      have hnot : ∀ e ∈ oj.after, Region.binds .any e = true → e.on ≠ i := fun e he hb heq => by
        have h1 := hall e he hb
        have h0 := (mem_ready.1 hr).1
        rw [heq] at h1
        rcases Nat.lt_or_ge i listed.size with h' | h'
        · simp [h'] at h0 h1; rw [h0] at h1; cases h1
        · simp [Array.getElem?_eq_none h'] at h1
      have h2 := wpOp_putIf hoj (hfree j oj hoj hji hjun hnot) (fun cs b => hsel i oi cs b hi) (fun cs b => hsel j oj cs b hoj) hQ hy h1
      have hfree' : ∀ k ok, ops[k]? = some ok → k ≠ i → (listed.setIfInBounds j true).getD k true = false →
          (∀ e ∈ ok.after, Region.binds .any e = true → e.on ≠ i) → oi.apart ops ok = true := fun k ok hk hki hun hno => by
        refine hfree k ok hk hki ?_ hno
        by_cases hjk : j = k
        · subst hjk; exact hjun
        · rw [getD_set_ne true hjk] at hun; exact hun
      refine wpOp_mono (fun a' w' h3 => ?_) h2
      obtain ⟨h4, h5, h6⟩ := h3
      have h7 : Si w' := hpres j listed hcl hj (mem_ready.1 hr).1 w w' h5 hS
      exact ⟨h5, ih (listed.setIfInBounds j true) a' w' hfree' (hcl.add hj) (ready_mono hr (Ne.symm hji)) h4 h7 (by rw [Array.setIfInBounds_comm _ _ hji]; exact h6)⟩

/-- A table of what each waits for, through others. -/
def clOK (ops : Array Oper) (cl : Array Nat) : Bool :=
  (List.range ops.size).all fun j => (List.range ops.size).all fun i => !(cl.getD j 0).testBit i || match ops[j]? with
    | some o => o.after.any fun e => Region.binds .any e && decide (e.on < j) && (e.on == i || (cl.getD e.on 0).testBit i)
    | none => false

theorem cl_listed {cl : Array Nat} (h : clOK ops cl = true) {listed : Array Bool} (hc : Closed ops listed) : ∀ (j i : Nat) (o : Oper), ops[j]? = some o → i < ops.size → (cl.getD j 0).testBit i = true →
    (∀ e ∈ o.after, Region.binds .any e = true → listed.getD e.on false = true) → listed.getD i false = true := by
  intro j
  induction j using Nat.strongRecOn with
  | _ j ih =>
    intro i o ho hi ht hall
    unfold clOK at h
    rw [List.all_eq_true] at h
    have hj : j < ops.size := (Array.getElem?_eq_some_iff.1 ho).1
    have h1 := h j (List.mem_range.2 hj)
    rw [List.all_eq_true] at h1
    have h2 := h1 i (List.mem_range.2 hi)
    simp only [ht, Bool.not_true, Bool.false_or, ho] at h2
    rw [Array.any_eq_true'] at h2
    obtain ⟨e, he, h3⟩ := h2
    simp only [Bool.and_eq_true, Bool.or_eq_true, beq_iff_eq, decide_eq_true_eq] at h3
    obtain ⟨⟨h4, h5⟩, h6⟩ := h3
    have h7 := hall e he h4
    rcases h6 with rfl | h6
    · exact h7
    · have hon : e.on < ops.size := by omega
      have ho' : ops[e.on]? = some ops[e.on] := Array.getElem?_eq_getElem hon
      exact ih e.on h5 i _ ho' hi h6 (fun e' he' hb' => hc e.on _ ho' h7 e' he' hb')

/-- Every operation behind the first part waits for each of the first part's. -/
def tailOK (ops : Array Oper) (N A : List Nat) : Bool :=
  clOK ops (Region.before ops) && N.all (fun i => decide (i < ops.size)) && (List.range ops.size).all fun j => A.contains j || N.all fun i => ((Region.before ops).getD j 0).testBit i

theorem tail_in {N A : List Nat} (ht : tailOK ops N A = true) {i j : Nat} (hi : i ∈ N) {listed : Array Bool} (hc : Closed ops listed) (hj : j ∈ Region.ready .any ops listed) (hun : listed.getD i true = false) : j ∈ A := by
  obtain ⟨_, o, ho, hall⟩ := mem_ready.1 hj
  simp only [tailOK, Bool.and_eq_true] at ht
  obtain ⟨⟨h0, hA⟩, h1⟩ := ht
  rw [List.all_eq_true] at h1 hA
  have h2 := h1 j (List.mem_range.2 (Array.getElem?_eq_some_iff.1 ho).1)
  simp only [Bool.or_eq_true] at h2
  rcases h2 with h2 | h2
  · simpa using h2
  · rw [List.all_eq_true] at h2
    have h3 := h2 i hi
    have hlt : i < ops.size := by simpa using hA i hi
    have h4 := cl_listed h0 hc j i o ho hlt h3 hall
    rcases Nat.lt_or_ge i listed.size with h' | h'
    · simp [h'] at h4 hun; rw [hun] at h4; cases h4
    · simp [Array.getElem?_eq_none h'] at h4

/-- One order: (number, kind): 0: may come early, in the first part · 1: no choice, in the first part · 2: may come early, behind it · else: no choice, behind it. -/
def ordGo (ops : Array Oper) (N A : List Nat) : Array Bool → List (Nat × Nat) → Bool
  | listed, [] => (Region.ready .any ops listed).isEmpty
  | listed, (i, k) :: l =>
    (if k == 0 || k == 2 then (Region.ready .any ops listed).contains i && Region.free .any ops listed i else Region.ready .any ops listed == [i]) &&
    (A.contains i == (k == 0 || k == 1 || k == 2)) && (N.contains i == (k == 0)) && ordGo ops N A (listed.setIfInBounds i true) l

def needs (ord : List (Nat × Nat)) : List Nat := (ord.filter fun p => p.2 == 0).map (·.1)
def firsts (ord : List (Nat × Nat)) : List Nat := (ord.filter fun p => p.2 == 0 || p.2 == 1 || p.2 == 2).map (·.1)

def ordOK (ops : Array Oper) (ord : List (Nat × Nat)) : Bool :=
  Region.noSelect ops && tailOK ops (needs ord) (firsts ord) && (ord.length == ops.size) && ordGo ops (needs ord) (firsts ord) (Array.replicate ops.size false) ord

def wpSeqD (P : Program) (all : Array Oper) (Q : Exit → Act → World → Prop) (S : World → Prop) : List (Nat × Nat) → Act → World → Prop
  | [], a, w => Q .normal a w
  | (i, k) :: l, a, w =>
    if k == 0 then ∃ o v, all[i]? = some o ∧ YieldsIf P all S o v a ∧ wpSeqD P all Q S l (a.put o.dst v) w
    else if k == 1 then wpOp P all Q i (fun a' w' => S w' ∧ wpSeqD P all Q S l a' w') a w
    else if k == 2 then ∃ o v, all[i]? = some o ∧ YieldsIf P all (fun _ => True) o v a ∧ wpSeqD P all Q S l (a.put o.dst v) w
    else wpOp P all Q i (fun a' w' => wpSeqD P all Q S l a' w') a w

theorem wpAnyG_of_seqD {N A : List Nat} {S : World → Prop} (hs : Region.noSelect ops = true) (ht : tailOK ops N A = true) (hQ : ∀ c a d v w, Q (.panic c) (a.put d v) w → Q (.panic c) a w) :
    ∀ (l : List (Nat × Nat)) (listed : Array Bool) (a : Act) (w : World), Closed ops listed → ordGo ops N A listed l = true → ((∃ i ∈ N, listed.getD i true = false) → S w) → wpSeqD P ops Q S l a w → wpAnyG P ops Q A S l.length listed a w
  | [], listed, a, w, _, hg, _, h => ⟨by simpa [ordGo] using hg, h⟩
  | (i, k) :: l, listed, a, w, hcl, hg, hS, h => by
    simp only [ordGo, Bool.and_eq_true] at hg
    obtain ⟨⟨⟨h1, h2⟩, h2N⟩, h3⟩ := hg
    have hir : i ∈ Region.ready .any ops listed := by
      split at h1
      · simp only [Bool.and_eq_true, List.contains_iff_mem] at h1; exact h1.1
      · have : Region.ready .any ops listed = [i] := by simpa using h1
        rw [this]; simp
    have hfin : ∀ w', ((∃ j ∈ N, (listed.setIfInBounds i true).getD j true = false) → S w') → ∀ a', wpSeqD P ops Q S l a' w' → wpAnyG P ops Q A S l.length (listed.setIfInBounds i true) a' w' :=
      fun w' hw' a' h' => wpAnyG_of_seqD hs ht hQ l _ a' w' (hcl.add hir) h3 hw' h'
    have hsub : ∀ j, (listed.setIfInBounds i true).getD j true = false → listed.getD j true = false := fun j hj => by
      by_cases hij : i = j
      · subst hij
        rcases Nat.lt_or_ge i listed.size with h' | h'
        · simp [h'] at hj
        · simp at hj
      · rwa [getD_set_ne true hij] at hj
    simp only [wpSeqD] at h
    by_cases hk0 : k = 0
    · subst hk0
      simp only [beq_self_eq_true, if_true, Bool.true_or, Bool.and_eq_true, List.contains_iff_mem, beq_iff_eq] at h h1 h2 h2N
      obtain ⟨o, v, ho, hy, hw⟩ := h
      have hiN : i ∈ N := by simpa using h2N
      have hun : listed.getD i true = false := (mem_ready.1 h1.1).1
      have hSw := hS ⟨i, hiN, hun⟩
      exact wpAnyG_first ho (Region.noSelect_spec hs) (fun c a' w' => hQ c a' _ _ w') (fun j l' hc hj hu w1 w2 hj' hw1 => hj' (tail_in ht hiN hc hj hu) hw1) l.length listed a w
        (Region.free_spec ho h1.2) hcl h1.1 hy hSw (hfin w (fun _ => hSw) _ hw)
    · by_cases hk1 : k = 1
      · subst hk1
        simp only [Nat.reduceBEq, Bool.false_eq_true, if_false, beq_self_eq_true, if_true, Bool.or_self, beq_iff_eq] at h h1
        refine ⟨fun h0 => absurd (h1.symm.trans h0) (by simp), fun j hj => ?_⟩
        rw [h1] at hj
        obtain rfl : j = i := by simpa using hj
        exact wpOp_mono (fun a' w' h' => ⟨fun _ _ => h'.1, hfin w' (fun _ => h'.1) _ h'.2⟩) h
      · by_cases hk2 : k = 2
        · subst hk2
          simp only [Nat.reduceBEq, Bool.false_eq_true, if_false, beq_self_eq_true, if_true, Bool.or_true, Bool.and_eq_true, List.contains_iff_mem, Bool.or_self, beq_iff_eq] at h h1 h2
          obtain ⟨o, v, ho, hy, hw⟩ := h
          exact wpAnyG_first (Si := fun _ => True) ho (Region.noSelect_spec hs) (fun c a' w' => hQ c a' _ _ w') (fun _ _ _ _ _ _ _ _ _ => trivial) l.length listed a w
            (Region.free_spec ho h1.2) hcl h1.1 hy trivial (hfin w (fun ⟨j, hj, hu⟩ => hS ⟨j, hj, hsub j hu⟩) _ hw)
        · have e0 : (k == 0) = false := by simpa using hk0
          have e1 : (k == 1) = false := by simpa using hk1
          have e2 : (k == 2) = false := by simpa using hk2
          simp only [e0, e1, e2, Bool.false_eq_true, if_false, Bool.or_self, beq_iff_eq] at h h1 h2
          have hiA : i ∉ A := by simpa using h2
          refine ⟨fun h0 => absurd (h1.symm.trans h0) (by simp), fun j hj => ?_⟩
          rw [h1] at hj
          obtain rfl : j = i := by simpa using hj
          have hr : j ∈ Region.ready .any ops listed := by rw [h1]; simp
          refine wpOp_mono (fun a' w' h' => ⟨fun hA => absurd hA hiA, hfin w' (fun ⟨m, hm, hu⟩ => ?_) _ h'⟩) h
          exact absurd (tail_in ht hm hcl hr (hsub m hu)) hiA

theorem wp_region_seqD {id : Nat} {ord : List (Nat × Nat)} {S : World → Prop} {a : Act} {w : World} (hm : P.follows .mixedOrders = true) (ho : ordOK ops ord = true)
    (hQ : ∀ c a d v w, Q (.panic c) (a.put d v) w → Q (.panic c) a w) (hS : S { w with drawn := w.drawn + 1 }) (h : wpSeqD P ops Q S ord a { w with drawn := w.drawn + 1 }) : (Code.region id ops true).wp P Q a w := by
  simp only [ordOK, Bool.and_eq_true, beq_iff_eq] at ho
  obtain ⟨⟨⟨h1, h2⟩, h3⟩, h4⟩ := ho
  refine wp_region_any hm (wpAny_of_G (A := firsts ord) (S := S) _ _ _ _ ?_)
  have := wpAnyG_of_seqD h1 h2 hQ ord _ a _ Closed.none h4 (fun _ => hS) h
  rwa [h3] at this
end
end Go.SX
