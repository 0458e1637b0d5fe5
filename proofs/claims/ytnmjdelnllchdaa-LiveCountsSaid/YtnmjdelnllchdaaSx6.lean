/-
  Part 6: a region that draws its order: one order serves all, if what may come early yields its value in every world that keeps some facts, and what else is left has no choice. Holds for every program.
-/
import Derived.Test.YtnmjdelnllchdaaSx5
namespace Go.SX
set_option linter.unusedVariables false
set_option linter.unusedSimpArgs false
set_option linter.unusedSectionVars false
open Go

section
variable {P : Program} {ops : Array Oper} {Q : Exit → Act → World → Prop}

def wpAnyG (P : Program) (ops : Array Oper) (Q : Exit → Act → World → Prop) (A : List Nat) (S T : World → Prop) : Nat → Array Bool → Act → World → Prop
  | 0, listed, a, w => Region.ready .any ops listed = [] ∧ Q .normal a w
  | fuel + 1, listed, a, w =>
    (Region.ready .any ops listed = [] → Q .normal a w) ∧
    ∀ i ∈ Region.ready .any ops listed, wpOp P ops Q i (fun a' w' => (i ∈ A → S w → S w') ∧ T w' ∧ wpAnyG P ops Q A S T fuel (listed.setIfInBounds i true) a' w') a w

theorem wpAny_of_G {A : List Nat} {S T : World → Prop} : ∀ (fuel : Nat) (listed : Array Bool) (a : Act) (w : World), wpAnyG P ops Q A S T fuel listed a w → wpAny P .any ops Q fuel listed a w
  | 0, _, _, _, h => h
  | fuel + 1, _, _, _, h => ⟨h.1, fun i hi => wpOp_mono (fun a' w' h' => wpAny_of_G fuel _ a' w' h'.2.2) (h.2 i hi)⟩

theorem wpAnyG_mono {A : List Nat} {S T T' : World → Prop} (hT : ∀ w, T' w → T w) : ∀ (fuel : Nat) (listed : Array Bool) (a : Act) (w : World), wpAnyG P ops Q A S T' fuel listed a w → wpAnyG P ops Q A S T fuel listed a w
  | 0, _, _, _, h => h
  | fuel + 1, _, _, _, h => ⟨h.1, fun i hi => wpOp_mono (fun a' w' h' => ⟨h'.1, hT _ h'.2.1, wpAnyG_mono hT fuel _ a' w' h'.2.2⟩) (h.2 i hi)⟩

/-- What has come up has come up behind all that it waits for. -/
def Closed (ops : Array Oper) (listed : Array Bool) : Prop :=
  ∀ (j : Nat) (o : Oper), ops[j]? = some o → listed.getD j false = true → ∀ e ∈ o.after, Region.binds .any e = true → listed.getD e.on false = true

theorem Closed.add {listed : Array Bool} (h : Closed ops listed) {i : Nat} (hi : i ∈ Region.ready .any ops listed) : Closed ops (listed.setIfInBounds i true) := by
  intro j o ho hj e he hb
  by_cases hji : j = i
  · subst hji
    obtain ⟨_, o', ho', hall⟩ := mem_ready.1 hi
    rw [ho] at ho'
    cases ho'
    exact getD_set_true (hall e he hb)
  · rw [getD_set_ne false (Ne.symm hji)] at hj
    exact getD_set_true (h j o ho hj e he hb)

theorem Closed.none : Closed ops (Array.replicate ops.size false) := by
  intro j o ho hj
  have hlt : j < ops.size := (Array.getElem?_eq_some_iff.1 ho).1
  simp [hlt] at hj

theorem wpAnyG_first {A : List Nat} {S T : World → Prop} {Si : World → Prop} {i : Nat} {oi : Oper} {v : Value} (hi : ops[i]? = some oi) (hsel : ∀ (j : Nat) (o : Oper) cs b, ops[j]? = some o → o.op ≠ .select cs b)
    (hQ : ∀ c a w, Q (.panic c) (a.put oi.dst v) w → Q (.panic c) a w)
    (hpres : ∀ j (listed : Array Bool), Closed ops listed → j ∈ Region.ready .any ops listed → listed.getD i true = false → ∀ w w', (j ∈ A → S w → S w') → T w' → Si w → Si w') :
    ∀ (fuel : Nat) (listed : Array Bool) (a : Act) (w : World),
      (∀ j oj, ops[j]? = some oj → j ≠ i → listed.getD j true = false → (∀ e ∈ oj.after, Region.binds .any e = true → e.on ≠ i) → oi.apart ops oj = true) →
      Closed ops listed → i ∈ Region.ready .any ops listed → YieldsIf P ops Si oi v a → Si w → T w →
      wpAnyG P ops Q A S T fuel (listed.setIfInBounds i true) (a.put oi.dst v) w → wpAnyG P ops Q A S T (fuel + 1) listed a w := by
  intro fuel
  induction fuel with
  | zero =>
    intro listed a w _ _ hr hy hS hTw H
    refine ⟨fun h => (by rw [h] at hr; cases hr), fun j hj => ?_⟩
    by_cases hji : j = i
    · subst hji; exact hy.wpOp hi hS ⟨fun _ h => h, hTw, H⟩
    · have := ready_mono hj hji
      rw [H.1] at this
      cases this
  | succ fuel ih =>
    intro listed a w hfree hcl hr hy hS hTw H
    refine ⟨fun h => (by rw [h] at hr; cases hr), fun j hj => ?_⟩
    by_cases hji : j = i
    · subst hji; exact hy.wpOp hi hS ⟨fun _ h => h, hTw, H⟩
    · have h1 := H.2 j (ready_mono hj hji)
      obtain ⟨hjun, oj, hoj, hall⟩ := mem_ready.1 hj
      have hnot : ∀ e ∈ oj.after, Region.binds .any e = true → e.on ≠ i := fun e he hb heq => by
        have h1 := hall e he hb
        have h0 := (mem_ready.1 hr).1
        rw [heq] at h1
        rcases Nat.lt_or_ge i listed.size with h' | h'
        · simp [h'] at h0 h1; rw [h0] at h1; cases h1
        · simp [Array.getElem?_eq_none h'] at h1
      have h2 := wpOp_putIf hoj (hfree j oj hoj hji hjun hnot) (fun cs b => hsel i oi cs b hi) (fun cs b => hsel j oj cs b hoj) hQ hy h1
      have hfree' : ∀ k ok, ops[k]? = some ok → k ≠ i → (listed.setIfInBounds j true).getD k true = false →
          (∀ e ∈ ok.after, Region.binds .any e = true → e.on ≠ i) → oi.apart ops ok = true := fun k ok hk hki hun hno => by
        refine hfree k ok hk hki ?_ hno
        by_cases hjk : j = k
        · subst hjk; exact hjun
        · rw [getD_set_ne true hjk] at hun; exact hun
      refine wpOp_mono (fun a' w' h3 => ?_) h2
      obtain ⟨h4, h5, h8, h6⟩ := h3
      have h7 : Si w' := hpres j listed hcl hj (mem_ready.1 hr).1 w w' h5 h8 hS
      exact ⟨h5, h8, ih (listed.setIfInBounds j true) a' w' hfree' (hcl.add hj) (ready_mono hr (Ne.symm hji)) h4 h7 h8 (by rw [Array.setIfInBounds_comm _ _ hji]; exact h6)⟩

/-- A table of what each waits for, through others. -/
def clOK (ops : Array Oper) (cl : Array Nat) : Bool :=
  (List.range ops.size).all fun j => (List.range ops.size).all fun i => !(cl.getD j 0).testBit i || match ops[j]? with
    | some o => o.after.any fun e => Region.binds .any e && decide (e.on < j) && (e.on == i || (cl.getD e.on 0).testBit i)
    | none => false

theorem cl_listed {cl : Array Nat} (h : clOK ops cl = true) {listed : Array Bool} (hc : Closed ops listed) : ∀ (j i : Nat) (o : Oper), ops[j]? = some o → i < ops.size → (cl.getD j 0).testBit i = true →
    (∀ e ∈ o.after, Region.binds .any e = true → listed.getD e.on false = true) → listed.getD i false = true := by
  intro j
  induction j using Nat.strongRecOn with
  | _ j ih =>
    intro i o ho hi ht hall
    unfold clOK at h
    rw [List.all_eq_true] at h
    have hj : j < ops.size := (Array.getElem?_eq_some_iff.1 ho).1
    have h1 := h j (List.mem_range.2 hj)
    rw [List.all_eq_true] at h1
    have h2 := h1 i (List.mem_range.2 hi)
    simp only [ht, Bool.not_true, Bool.false_or, ho] at h2
    rw [Array.any_eq_true'] at h2
    obtain ⟨e, he, h3⟩ := h2
    simp only [Bool.and_eq_true, Bool.or_eq_true, beq_iff_eq, decide_eq_true_eq] at h3
    obtain ⟨⟨h4, h5⟩, h6⟩ := h3
    have h7 := hall e he h4
    rcases h6 with rfl | h6
    · exact h7
    · have hon : e.on < ops.size := by omega
      have ho' : ops[e.on]? = some ops[e.on] := Array.getElem?_eq_getElem hon
      exact ih e.on h5 i _ ho' hi h6 (fun e' he' hb' => hc e.on _ ho' h7 e' he' hb')

/-- Every operation behind the first part waits for each of the first part's. -/
def tailOK (ops : Array Oper) (N A : List Nat) : Bool :=
  clOK ops (Region.before ops) && N.all (fun i => decide (i < ops.size)) && (List.range ops.size).all fun j => A.contains j || N.all fun i => ((Region.before ops).getD j 0).testBit i

theorem tail_in {N A : List Nat} (ht : tailOK ops N A = true) {i j : Nat} (hi : i ∈ N) {listed : Array Bool} (hc : Closed ops listed) (hj : j ∈ Region.ready .any ops listed) (hun : listed.getD i true = false) : j ∈ A := by
  obtain ⟨_, o, ho, hall⟩ := mem_ready.1 hj
  simp only [tailOK, Bool.and_eq_true] at ht
  obtain ⟨⟨h0, hA⟩, h1⟩ := ht
  rw [List.all_eq_true] at h1 hA
  have h2 := h1 j (List.mem_range.2 (Array.getElem?_eq_some_iff.1 ho).1)
  simp only [Bool.or_eq_true] at h2
  rcases h2 with h2 | h2
  · simpa using h2
  · rw [List.all_eq_true] at h2
    have h3 := h2 i hi
    have hlt : i < ops.size := by simpa using hA i hi
    have h4 := cl_listed h0 hc j i o ho hlt h3 hall
    rcases Nat.lt_or_ge i listed.size with h' | h'
    · simp [h'] at h4 hun; rw [hun] at h4; cases h4
    · simp [Array.getElem?_eq_none h'] at h4

/-- A mark in an order: '(m, fork)' says that the next m entries are one way to go on, and those behind them the other. -/
abbrev fork : Nat := 1000000

def fixed (N A : List Nat) (i k : Nat) : Bool := (k == 1 || k == 3) && (A.contains i == (k == 1)) && !N.contains i

/-- One order: (number, kind): 0: may come early, in the first part · 1: no choice, in the first part · 2: may come early, behind it · 3: no choice, behind it · 4 and more: may come at any time, for what it looks at stays. 'r': how many are left. -/
def ordGo (ops : Array Oper) (N A : List Nat) : Nat → Nat → Array Bool → List (Nat × Nat) → Bool
  | _, r, listed, [] => (r == 0) && (Region.ready .any ops listed).isEmpty
  | n + 1, r + 1, listed, (i, k) :: l => if k == fork then (match l.take i, l.drop i with
      | (x, kx) :: lx, (y, ky) :: ly => ((Region.ready .any ops listed == [x, y] || Region.ready .any ops listed == [y, x]) && fixed N A x kx && fixed N A y ky && ordGo ops N A n r (listed.setIfInBounds x true) lx && ordGo ops N A n r (listed.setIfInBounds y true) ly) ||
        (ky == fork && fixed N A x kx && ordGo ops N A n r (listed.setIfInBounds x true) lx && (match ly.take y, ly.drop y with
          | (u, ku) :: lu, (v, kv) :: lv => (Region.ready .any ops listed).all (fun j => j == x || j == u || j == v) && (Region.ready .any ops listed).contains x && (Region.ready .any ops listed).contains u && (Region.ready .any ops listed).contains v && fixed N A u ku && fixed N A v kv && ordGo ops N A n r (listed.setIfInBounds u true) lu && ordGo ops N A n r (listed.setIfInBounds v true) lv
          | _, _ => false))
      | _, _ => false)
    else (if k == 0 || k == 2 || 4 ≤ k then (Region.ready .any ops listed).contains i && Region.free .any ops listed i else Region.ready .any ops listed == [i]) &&
    (A.contains i == (k == 0 || k == 1 || k == 2 || 4 ≤ k)) && (N.contains i == (k == 0)) && ordGo ops N A n r (listed.setIfInBounds i true) l
  | _, _, _, _ => false

def needs (ord : List (Nat × Nat)) : List Nat := (ord.filter fun p => p.2 == 0).map (·.1)
def firsts (ord : List (Nat × Nat)) : List Nat := (ord.filter fun p => p.2 == 0 || p.2 == 1 || p.2 == 2 || (4 ≤ p.2 && p.2 != fork)).map (·.1)

def ordOK (ops : Array Oper) (ord : List (Nat × Nat)) : Bool :=
  Region.noSelect ops && tailOK ops (needs ord) (firsts ord) && ordGo ops (needs ord) (firsts ord) ord.length ops.size (Array.replicate ops.size false) ord

def wpSeqD (P : Program) (all : Array Oper) (Q : Exit → Act → World → Prop) (S : World → Prop) (T : World → Prop) (l : List (Nat × Nat)) (a : Act) (w : World) : Prop :=
  match l with
  | [] => Q .normal a w
  | (i, k) :: l =>
    if k == 0 then ∃ o v, all[i]? = some o ∧ YieldsIf P all S o v a ∧ wpSeqD P all Q S T l (a.put o.dst v) w
    else if k == 1 then wpOp P all Q i (fun a' w' => S w' ∧ T w' ∧ wpSeqD P all Q S T l a' w') a w
    else if k == 2 then ∃ o v, all[i]? = some o ∧ YieldsIf P all (fun _ => True) o v a ∧ wpSeqD P all Q S T l (a.put o.dst v) w
    else if k == 3 then wpOp P all Q i (fun a' w' => T w' ∧ wpSeqD P all Q S T l a' w') a w
    else if k == fork then wpSeqD P all Q S T (l.take i) a w ∧ wpSeqD P all Q S T (l.drop i) a w
    else ∃ o v T', all[i]? = some o ∧ YieldsIf P all T' o v a ∧ T' w ∧ (∀ w, T' w → T w) ∧ wpSeqD P all Q S T' l (a.put o.dst v) w
termination_by l.length
decreasing_by all_goals (simp only [List.length_cons, List.length_take, List.length_drop]; omega)

theorem fixed_step {N A : List Nat} {S T : World → Prop} (ht : tailOK ops N A = true) {r : Nat} {listed : Array Bool} {a : Act} {w : World} {i k : Nat} {l : List (Nat × Nat)} (hcl : Closed ops listed) (hir : i ∈ Region.ready .any ops listed) (hf : fixed N A i k = true)
    (ih : ∀ a' w', ((∃ j ∈ N, (listed.setIfInBounds i true).getD j true = false) → S w') → T w' → wpSeqD P ops Q S T l a' w' → wpAnyG P ops Q A S T r (listed.setIfInBounds i true) a' w')
    (h : wpSeqD P ops Q S T ((i, k) :: l) a w) : wpOp P ops Q i (fun a' w' => (i ∈ A → S w → S w') ∧ T w' ∧ wpAnyG P ops Q A S T r (listed.setIfInBounds i true) a' w') a w := by
  simp only [fixed, Bool.and_eq_true, Bool.or_eq_true, beq_iff_eq] at hf
  obtain ⟨⟨hk, hA⟩, _⟩ := hf
  have hsub : ∀ j, (listed.setIfInBounds i true).getD j true = false → listed.getD j true = false := fun j hj => by
    by_cases hij : i = j
    · subst hij
      rcases Nat.lt_or_ge i listed.size with h' | h'
      · simp [h'] at hj
      · simp at hj
    · rwa [getD_set_ne true hij] at hj
  unfold wpSeqD at h
  rcases hk with rfl | rfl
  · simp only [Nat.reduceBEq, Bool.false_eq_true, if_false, if_true] at h
    exact wpOp_mono (fun a' w' h' => ⟨fun _ _ => h'.1, h'.2.1, ih _ _ (fun _ => h'.1) h'.2.1 h'.2.2⟩) h
  · simp only [Nat.reduceBEq, Bool.false_eq_true, if_false, if_true] at h
    have hiA : i ∉ A := by simpa using hA
    refine wpOp_mono (fun a' w' h' => ⟨fun hA => absurd hA hiA, h'.1, ih _ _ (fun ⟨m, hm, hu⟩ => ?_) h'.1 h'.2⟩) h
    exact absurd (tail_in ht hm hcl hir (hsub m hu)) hiA

theorem wpAnyG_of_seqD {N A : List Nat} {S : World → Prop} (hs : Region.noSelect ops = true) (ht : tailOK ops N A = true) (hQ : ∀ c a d v w, Q (.panic c) (a.put d v) w → Q (.panic c) a w) :
    ∀ (n r : Nat) (T : World → Prop) (l : List (Nat × Nat)) (listed : Array Bool) (a : Act) (w : World), Closed ops listed → ordGo ops N A n r listed l = true → ((∃ i ∈ N, listed.getD i true = false) → S w) → T w → wpSeqD P ops Q S T l a w → wpAnyG P ops Q A S T r listed a w := by
  intro n
  induction n with
  | zero =>
    intro r T l listed a w hcl hg hS hTw h
    cases l with
    | nil =>
      simp only [ordGo, Bool.and_eq_true, beq_iff_eq] at hg
      obtain ⟨rfl, hg⟩ := hg
      unfold wpSeqD at h
      exact ⟨by simpa using hg, h⟩
    | cons p l => cases r <;> simp [ordGo] at hg
  | succ n ihn =>
    intro r T l listed a w hcl hg hS hTw h
    cases l with
    | nil =>
      simp only [ordGo, Bool.and_eq_true, beq_iff_eq] at hg
      obtain ⟨rfl, hg⟩ := hg
      unfold wpSeqD at h
      exact ⟨by simpa using hg, h⟩
    | cons p l =>
      obtain ⟨i, k⟩ := p
      cases r with
      | zero => simp [ordGo] at hg
      | succ r =>
        by_cases hkf : k = fork
        · subst hkf
          simp only [ordGo, beq_self_eq_true, if_true] at hg
          rcases hx : l.take i with _ | ⟨⟨x, kx⟩, lx⟩
          · rw [hx] at hg
            cases hg
          rcases hy : l.drop i with _ | ⟨⟨y, ky⟩, ly⟩
          · rw [hx, hy] at hg
            cases hg
          · rw [hx, hy] at hg
            replace hg := (Bool.or_eq_true _ _).mp hg
            unfold wpSeqD at h
            simp only [fork, Nat.reduceBEq, Bool.false_eq_true, if_false, if_true] at h
            rw [hx, hy] at h
            rcases hg with hg | hg
            · simp only [Bool.and_eq_true, Bool.or_eq_true, beq_iff_eq] at hg
              obtain ⟨⟨⟨⟨h1, h2⟩, h3⟩, h4⟩, h5⟩ := hg
              have hxr : x ∈ Region.ready .any ops listed := by rcases h1 with h1 | h1 <;> rw [h1] <;> simp
              have hyr : y ∈ Region.ready .any ops listed := by rcases h1 with h1 | h1 <;> rw [h1] <;> simp
              refine ⟨fun h0 => (by rw [h0] at hxr; cases hxr), fun j hj => ?_⟩
              have hjj : j = x ∨ j = y := by rcases h1 with h1 | h1 <;> rw [h1] at hj <;> simp at hj <;> rcases hj with hj | hj <;> simp [hj]
              rcases hjj with rfl | rfl
              · exact fixed_step ht hcl hxr h2 (fun a' w' hS' hT' h' => ihn r T lx _ a' w' (hcl.add hxr) h4 hS' hT' h') h.1
              · exact fixed_step ht hcl hyr h3 (fun a' w' hS' hT' h' => ihn r T ly _ a' w' (hcl.add hyr) h5 hS' hT' h') h.2
            · simp only [Bool.and_eq_true] at hg
              obtain ⟨⟨⟨hkf, h2⟩, h4⟩, hg⟩ := hg
              obtain rfl : ky = fork := by simpa using hkf
              have hq := h.2
              unfold wpSeqD at hq
              simp only [fork, Nat.reduceBEq, Bool.false_eq_true, if_false, if_true] at hq
              rcases hu : ly.take y with _ | ⟨⟨u, ku⟩, lu⟩
              · rw [hu] at hg
                cases hg
              rcases hv : ly.drop y with _ | ⟨⟨v, kv⟩, lv⟩
              · rw [hu, hv] at hg
                cases hg
              · rw [hu, hv] at hg
                rw [hu, hv] at hq
                simp only [Bool.and_eq_true, List.contains_iff_mem, List.all_eq_true, Bool.or_eq_true, beq_iff_eq] at hg
                obtain ⟨⟨⟨⟨⟨⟨⟨h1, hxr⟩, hur⟩, hvr⟩, h3⟩, h5⟩, h6⟩, h7⟩ := hg
                refine ⟨fun h0 => (by rw [h0] at hxr; cases hxr), fun j hj => ?_⟩
                rcases h1 j hj with (rfl | rfl) | rfl
                · exact fixed_step ht hcl hxr h2 (fun a' w' hS' hT' h' => ihn r T lx _ a' w' (hcl.add hxr) h4 hS' hT' h') h.1
                · exact fixed_step ht hcl hur h3 (fun a' w' hS' hT' h' => ihn r T lu _ a' w' (hcl.add hur) h6 hS' hT' h') hq.1
                · exact fixed_step ht hcl hvr h5 (fun a' w' hS' hT' h' => ihn r T lv _ a' w' (hcl.add hvr) h7 hS' hT' h') hq.2
        have hkf' : (k == fork) = false := by simpa using hkf
        simp only [ordGo, hkf', Bool.false_eq_true, if_false, Bool.and_eq_true] at hg
        obtain ⟨⟨⟨h1, h2⟩, h2N⟩, h3⟩ := hg
        have hir : i ∈ Region.ready .any ops listed := by
          split at h1
          · simp only [Bool.and_eq_true, List.contains_iff_mem] at h1; exact h1.1
          · have : Region.ready .any ops listed = [i] := by simpa using h1
            rw [this]; simp
        have hfin : ∀ T' w', ((∃ j ∈ N, (listed.setIfInBounds i true).getD j true = false) → S w') → T' w' → ∀ a', wpSeqD P ops Q S T' l a' w' → wpAnyG P ops Q A S T' r (listed.setIfInBounds i true) a' w' :=
          fun T' w' hw' hT' a' h' => ihn r T' l _ a' w' (hcl.add hir) h3 hw' hT' h'
        have hsub : ∀ j, (listed.setIfInBounds i true).getD j true = false → listed.getD j true = false := fun j hj => by
          by_cases hij : i = j
          · subst hij
            rcases Nat.lt_or_ge i listed.size with h' | h'
            · simp [h'] at hj
            · simp at hj
          · rwa [getD_set_ne true hij] at hj
        by_cases hk13 : k = 1 ∨ k = 3
        · have hf : fixed N A i k = true := by
            rcases hk13 with rfl | rfl
            · simp only [Nat.reduceBEq, Nat.reduceLeDiff, decide_false, Bool.or_true, Bool.or_false, Bool.false_or, beq_iff_eq] at h2 h2N
              simp only [fixed, Nat.reduceBEq, Bool.true_or, Bool.true_and, Bool.and_eq_true, beq_iff_eq, Bool.not_eq_true', h2, h2N, and_self]
            · simp only [Nat.reduceBEq, Nat.reduceLeDiff, decide_false, Bool.or_true, Bool.or_false, Bool.false_or, beq_iff_eq] at h2 h2N
              simp only [fixed, Nat.reduceBEq, Bool.or_true, Bool.true_and, Bool.and_eq_true, beq_iff_eq, Bool.not_eq_true', h2, h2N, and_self]
          have h1' : Region.ready .any ops listed = [i] := by
            rcases hk13 with rfl | rfl <;> simpa using h1
          refine ⟨fun h0 => absurd (h1'.symm.trans h0) (by simp), fun j hj => ?_⟩
          rw [h1'] at hj
          obtain rfl : j = i := by simpa using hj
          exact fixed_step ht hcl hir hf (fun a' w' hS' hT' h' => hfin T w' hS' hT' a' h') h
        unfold wpSeqD at h
        by_cases hk0 : k = 0
        · subst hk0
          simp only [beq_self_eq_true, if_true, Bool.true_or, Bool.and_eq_true, List.contains_iff_mem, beq_iff_eq] at h h1 h2 h2N
          obtain ⟨o, v, ho, hy, hw⟩ := h
          have hiN : i ∈ N := by simpa using h2N
          have hun : listed.getD i true = false := (mem_ready.1 h1.1).1
          have hSw := hS ⟨i, hiN, hun⟩
          exact wpAnyG_first ho (Region.noSelect_spec hs) (fun c a' w' => hQ c a' _ _ w') (fun j l' hc hj hu w1 w2 hj' _ hw1 => hj' (tail_in ht hiN hc hj hu) hw1) r listed a w
            (Region.free_spec ho h1.2) hcl h1.1 hy hSw hTw (hfin T w (fun _ => hSw) hTw _ hw)
        · by_cases hk2 : k = 2
          · subst hk2
            simp only [Nat.reduceBEq, Bool.false_eq_true, if_false, beq_self_eq_true, if_true, Bool.or_true, Bool.true_or, Bool.and_eq_true, List.contains_iff_mem, Bool.or_self, beq_iff_eq] at h h1 h2
            obtain ⟨o, v, ho, hy, hw⟩ := h
            exact wpAnyG_first (Si := fun _ => True) ho (Region.noSelect_spec hs) (fun c a' w' => hQ c a' _ _ w') (fun _ _ _ _ _ _ _ _ _ _ => trivial) r listed a w
              (Region.free_spec ho h1.2) hcl h1.1 hy trivial hTw (hfin T w (fun ⟨j, hj, hu⟩ => hS ⟨j, hj, hsub j hu⟩) hTw _ hw)
          · have e0 : (k == 0) = false := by simpa using hk0
            have e1 : (k == 1) = false := by simp; omega
            have e2 : (k == 2) = false := by simpa using hk2
            have e3 : (k == 3) = false := by simp; omega
            have e4 : 4 ≤ k := by omega
            simp only [e0, e1, e2, e3, e4, hkf', Bool.false_eq_true, if_false, decide_true, Bool.or_true, if_true, Bool.and_eq_true, List.contains_iff_mem] at h h1
            obtain ⟨o, v, T', ho, hy, hT', hTT, hw⟩ := h
            exact wpAnyG_mono hTT _ _ _ _ (wpAnyG_first (T := T') (Si := T') ho (Region.noSelect_spec hs) (fun c a' w' => hQ c a' _ _ w') (fun _ _ _ _ _ _ _ _ h' _ => h') r listed a w
              (Region.free_spec ho h1.2) hcl h1.1 hy hT' hT' (hfin T' w (fun ⟨j, hj, hu⟩ => hS ⟨j, hj, hsub j hu⟩) hT' _ hw))

theorem wp_region_seqD {id : Nat} {ord : List (Nat × Nat)} {S T : World → Prop} {a : Act} {w : World} (hm : P.follows .mixedOrders = true) (ho : ordOK ops ord = true)
    (hQ : ∀ c a d v w, Q (.panic c) (a.put d v) w → Q (.panic c) a w) (hS : S { w with drawn := w.drawn + 1 }) (hT : T { w with drawn := w.drawn + 1 }) (h : wpSeqD P ops Q S T ord a { w with drawn := w.drawn + 1 }) : (Code.region id ops true).wp P Q a w := by
  simp only [ordOK, Bool.and_eq_true] at ho
  obtain ⟨⟨h1, h2⟩, h4⟩ := ho
  exact wp_region_any hm (wpAny_of_G (A := firsts ord) (S := S) (T := T) _ _ _ _ (wpAnyG_of_seqD h1 h2 hQ _ _ T ord _ a _ Closed.none h4 (fun _ => hS) hT h))
end
end Go.SX
