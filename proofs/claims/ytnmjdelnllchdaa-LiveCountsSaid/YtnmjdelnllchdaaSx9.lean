/-
  Part 9: the worklist of a function's code; the condition that a walk of it asks; that it is enough. Holds for every program.
-/
import Derived.Test.YtnmjdelnllchdaaSx8
namespace Go.SX
set_option linter.unusedVariables false
set_option linter.unusedSimpArgs false
set_option linter.unusedSectionVars false
open Go

inductive W where
  | code (c : Code)
  | ops (all : Array Oper) (l : List Oper)
  | opsD (all : Array Oper) (hp0 : Hp) (l : List (Nat × Nat))
  | inBlock (id : Nat)
  | inv (I : Act → World → Prop)
  | retn

/-! ### Blocks that stay while a drawn region runs: the entries whose mark is off -/
def thaw (H : Hp) : Hp := H.map fun e => (e.1, true, e.2.2)
def frz (H : Hp) : Hp := if H.all (fun e => e.2.1) then [] else H.map fun e => (e.1, e.2.1, if e.2.1 then .any else e.2.2)
def fixB (H : Hp) (i : Nat) : Hp := match H[i]? with
  | some e => H.set i (e.1, false, e.2.2)
  | none => H
def rootIx (st : St) (t : Nat) : Nat := match look st.env t with
  | some (_, .ptr j _ _) => j
  | some (_, .sl j _ _ _ _ _ _) => j
  | some (_, .el j _ _ _ _ _) => j
  | some (_, .mp j _) => j
  | _ => 0
/-- The first blocks are as the second tell. -/
def Froz : Hp → Hp → Prop
  | [], _ => True
  | _ :: _, [] => False
  | e :: r, e' :: r' => (e.1 = e'.1 ∧ (e.2.2 = .any ∨ e.2.2 = e'.2.2)) ∧ Froz r r'

theorem HpRep.thaw {H : Hp} {w : World} (h : HpRep H w) : HpRep (thaw H) w := by
  intro i b m o hi
  simp only [SX.thaw, List.getElem?_map, Option.map_eq_some_iff] at hi
  obtain ⟨e, he, h1⟩ := hi
  cases h1
  exact h i _ _ _ he
theorem HpRep.frz {H : Hp} {w : World} (h : HpRep H w) : HpRep (frz H) w := by
  unfold SX.frz
  split
  · intro i b m o hi; simp at hi
  · intro i b m o hi
    simp only [List.getElem?_map, Option.map_eq_some_iff] at hi
    obtain ⟨e, he, h1⟩ := hi
    have h2 := h i _ _ _ he
    cases h1
    split
    · exact SO.rep_lt h2
    · exact h2
theorem get_set' {α : Type} {l : List α} {i j : Nat} {x : α} (h : i < l.length) : (l.set i x)[j]? = if i = j then some x else l[j]? := by
  rw [List.getElem?_set]
  split <;> simp [h]
theorem HpRep_fixB (H : Hp) (i : Nat) (w : World) : HpRep (fixB H i) w ↔ HpRep H w := by
  unfold fixB
  split
  · rename_i e he
    have hlt := (List.getElem?_eq_some_iff.1 he).1
    constructor
    · intro h j b m o hj
      by_cases hij : i = j
      · subst hij
        rw [he] at hj
        cases hj
        exact h i _ false _ (by rw [get_set' hlt, if_pos rfl])
      · exact h j b m o (by rw [get_set' hlt, if_neg hij]; exact hj)
    · intro h j b m o hj
      rw [get_set' hlt] at hj
      split at hj
      · cases hj; exact h i _ _ _ he
      · exact h j b m o hj
  · exact Iff.rfl
theorem frz_fixB (H : Hp) (i : Nat) (w : World) (h : HpRep (frz (fixB H i)) w) : HpRep (frz H) w := by
  by_cases hall : H.all (fun e => e.2.1) = true
  · unfold SX.frz
    rw [if_pos hall]
    intro i b m o hi; simp at hi
  · have e1 : frz H = H.map fun e => (e.1, e.2.1, if e.2.1 then .any else e.2.2) := by unfold SX.frz; rw [if_neg hall]
    rw [e1]
    unfold fixB at h
    split at h
    · rename_i e he
      have hlt := (List.getElem?_eq_some_iff.1 he).1
      have hn : ¬ (H.set i (e.1, false, e.2.2)).all (fun e => e.2.1) = true := by
        intro hc
        rw [List.all_eq_true] at hc
        have := hc (e.1, false, e.2.2) (List.mem_of_getElem? (i := i) (by rw [get_set' hlt, if_pos rfl]))
        simp at this
      unfold SX.frz at h
      rw [if_neg hn] at h
      intro j b m o hj
      simp only [List.getElem?_map, Option.map_eq_some_iff] at hj
      obtain ⟨e', he', h1⟩ := hj
      by_cases hij : i = j
      · subst hij
        rw [he] at he'
        cases he'
        have h2 := h i e.1 false e.2.2 (by rw [List.getElem?_map, get_set' hlt, if_pos rfl]; rfl)
        cases h1
        split
        · exact SO.rep_lt h2
        · exact h2
      · refine h j b m o ?_
        rw [List.getElem?_map, get_set' hlt, if_neg hij, he']
        exact congrArg some h1
    · rw [e1] at h; exact h
theorem frz_frz (H : Hp) : frz (frz H) = frz H := by
  by_cases hall : H.all (fun e => e.2.1) = true
  · have e1 : frz H = [] := by unfold SX.frz; rw [if_pos hall]
    rw [e1]; rfl
  · have e1 : frz H = H.map fun e => (e.1, e.2.1, if e.2.1 then .any else e.2.2) := by unfold SX.frz; rw [if_neg hall]
    rw [e1]
    have h2 : ¬ (H.map fun e => (e.1, e.2.1, if e.2.1 then SO.any else e.2.2)).all (fun e => e.2.1) = true := by
      intro hc
      apply hall
      rw [List.all_eq_true] at hc ⊢
      intro e he
      have h3 := hc (e.1, e.2.1, if e.2.1 then SO.any else e.2.2) (List.mem_map.2 ⟨e, he, rfl⟩)
      exact h3
    unfold SX.frz
    rw [if_neg h2, List.map_map]
    refine List.map_congr_left fun e _ => ?_
    simp only [Function.comp]
    split <;> simp_all
theorem Froz.rep : ∀ {A B : Hp} {w : World}, Froz A B → HpRep B w → HpRep A w
  | [], _, _, _, _ => fun i b m o hi => by simp at hi
  | _ :: _, [], _, h, _ => h.elim
  | e :: r, e' :: r', w, h, hB => fun i b m o hi => by
    cases i with
    | zero =>
      cases hi
      have h1 := hB 0 e'.1 e'.2.1 e'.2.2 rfl
      obtain ⟨⟨h2, h3⟩, _⟩ := h
      simp only at h2 h3
      rcases h3 with h3 | h3
      · rw [h3, h2]; exact SO.rep_lt h1
      · rw [h3, h2]; exact h1
    | succ i => exact Froz.rep h.2 (fun i b m o hi => hB (i + 1) b m o hi) i b m o hi

/-- What is asked of the rest of a function's run. -/
def post (P : Program) (Q : Exit → Act → World → Prop) : List W → Exit → Act → World → Prop
  | [], e, a, w => Q e a w
  | .code c :: k, .normal, a, w => c.wp P (post P Q k) a w
  | .ops all l :: k, .normal, a, w => wpList P all (post P Q k) l a w
  | .opsD all hp0 l :: k, .normal, a, w => wpSeqD P all (post P Q k) (HpRep hp0) (HpRep (frz hp0)) l a w
  | .inBlock id :: k, .exit id', a, w => if id' = id then post P Q k .normal a w else post P Q k (.exit id') a w
  | .inv I :: _, .normal, a, w => I a w
  | .retn :: _, .normal, a, w => Q .ret a w
  | _ :: k, e, a, w => post P Q k e a w

theorem post_ret {P : Program} {Q : Exit → Act → World → Prop} {a : Act} {w : World} : ∀ k : List W, Q .ret a w → post P Q k .ret a w
  | [], h => h
  | .code _ :: k, h => post_ret k h
  | .ops _ _ :: k, h => post_ret k h
  | .opsD _ _ _ :: k, h => post_ret k h
  | .inBlock _ :: k, h => post_ret k h
  | .inv _ :: k, h => post_ret k h
  | .retn :: k, h => post_ret k h

theorem post_panic {P : Program} {Q : Exit → Act → World → Prop} {c : List PanicEntry} {a : Act} {w : World} : ∀ k : List W, post P Q k (.panic c) a w ↔ Q (.panic c) a w
  | [] => Iff.rfl
  | .code _ :: k => post_panic k
  | .ops _ _ :: k => post_panic k
  | .opsD _ _ _ :: k => post_panic k
  | .inBlock _ :: k => post_panic k
  | .inv _ :: k => post_panic k
  | .retn :: k => post_panic k

/-- The rest behind a block that is left. -/
def popTo (id : Nat) : List W → Option (List W)
  | [] => none
  | .inBlock id' :: k => if id == id' then some k else popTo id k
  | .inv _ :: k => popTo id k
  | .retn :: _ => none
  | _ :: k => popTo id k

theorem post_exit {P : Program} {Q : Exit → Act → World → Prop} {id : Nat} {a : Act} {w : World} : ∀ (k k' : List W), popTo id k = some k' → post P Q k' .normal a w → post P Q k (.exit id) a w
  | [], _, h, _ => by cases h
  | .code _ :: k, k', h, hq => post_exit k k' h hq
  | .ops _ _ :: k, k', h, hq => post_exit k k' h hq
  | .opsD _ _ _ :: k, k', h, hq => post_exit k k' h hq
  | .inv _ :: k, k', h, hq => post_exit k k' h hq
  | .retn :: k, _, h, _ => by cases h
  | .inBlock id' :: k, k', h, hq => by
    simp only [popTo] at h
    split at h
    · rename_i e
      cases h
      have e' : id = id' := by simpa using e
      simp only [post, if_pos e']
      exact hq
    · rename_i e
      have e' : ¬ id = id' := by simpa using e
      simp only [post, if_neg e']
      exact post_exit k k' h hq

/-- Slots that live on. -/
def lookC (env : List (Nat × Nat × SV)) (t : Nat) : Bool :=
  match look env t with
  | some (0, _) => true
  | _ => false

def leave (live : List Nat) (st : St) : St :=
  if st.cs.isEmpty then { st with env := st.env.filter fun e => live.contains e.1, ks := [] }
  else { st with env := st.env.filter fun e => live.contains e.1 && lookC st.env e.1, cs := [], ks := [] }

theorem look_filter {g : Nat → Bool} : ∀ (l : List (Nat × Nat × SV)) (t : Nat), look (l.filter fun e => g e.1) t = if g t then look l t else none
  | [], t => by simp [look]
  | (u, c, x) :: l, t => by
    simp only [List.filter_cons]
    by_cases hu : g u = true
    · simp only [hu, if_true, look]
      by_cases hut : (u == t) = true
      · have : u = t := by simpa using hut
        subst this
        simp [hu]
      · simp only [hut, Bool.false_eq_true, if_false, look_filter l t]
    · simp only [hu, Bool.false_eq_true, if_false, look, look_filter l t]
      by_cases hut : (u == t) = true
      · have : u = t := by simpa using hut
        subst this
        simp [hu]
      · simp [hut]

theorem leave_env {live : List Nat} {st : St} {a : Act} (h : EnvRep st a) : EnvRep (leave live st) a := by
  obtain ⟨h1, h2, h3, h4⟩ := h
  unfold leave
  split
  · refine ⟨h1, h2, fun t c x hx => ?_, fun r hr => by cases hr⟩
    rw [look_filter] at hx
    split at hx
    · exact h3 t c x hx
    · cases hx
  · refine ⟨h1, h2, fun t c x hx => ?_, fun r hr => by cases hr⟩
    have e := look_filter (g := fun s => live.contains s && lookC st.env s) st.env t
    simp only [] at e hx
    rw [e] at hx
    split at hx
    · rename_i hg
      simp only [Bool.and_eq_true, lookC] at hg
      rw [hx] at hg
      cases c with
      | zero =>
        obtain ⟨_, b2⟩ := h3 t 0 x hx
        exact ⟨Nat.zero_le _, b2⟩
      | succ n => simp at hg
    · cases hx

theorem leave_rep {F : Fr} {live : List Nat} {st : St} {a : Act} {w : World} (h : Rep F st a w) : Rep F (leave live st) a w := by
  refine Rep.of_mem (leave_env h.env) ?_
  have e : (leave live st).hp = st.hp ∧ (leave live st).s = st.s ∧ (leave live st).k = st.k := by unfold leave; split <;> exact ⟨rfl, rfl, rfl⟩
  rw [e.1, e.2.1, e.2.2]
  exact h.mem

def lookN : List (Nat × List (Nat × Nat)) → Nat → Option (List (Nat × Nat))
  | [], _ => none
  | (u, d) :: r, t => if u == t then some d else lookN r t

/-- The orders that are kept for regions that draw fit. -/
def okC (dt : List (Nat × List (Nat × Nat))) : Code → Bool
  | .region id ops true => match lookN dt id with
    | some ord => ordOK ops ord
    | none => true
  | .seq x y => okC dt x && okC dt y
  | .cond _ x y => okC dt x && okC dt y
  | .block _ x => okC dt x
  | .loop x => okC dt x
  | .scope x => okC dt x
  | _ => true

def okT (dt : List (Nat × List (Nat × Nat))) : List W → Bool
  | [] => true
  | .code c :: k => okC dt c && okT dt k
  | .opsD _ _ _ :: _ => false
  | .ops _ _ :: k => okT dt k
  | .inBlock _ :: k => okT dt k
  | .inv _ :: k => okT dt k
  | .retn :: k => okT dt k

def okW (dt : List (Nat × List (Nat × Nat))) : List W → Bool
  | .opsD _ _ _ :: k => okT dt k
  | k => okT dt k

theorem okT_pop {dt : List (Nat × List (Nat × Nat))} {id : Nat} : ∀ (k k' : List W), popTo id k = some k' → okT dt k = true → okT dt k' = true
  | [], _, h, _ => by cases h
  | .code _ :: k, k', h, hq => okT_pop k k' h (by simp only [okT, Bool.and_eq_true] at hq; exact hq.2)
  | .ops _ _ :: k, k', h, hq => okT_pop k k' h hq
  | .opsD _ _ _ :: k, k', h, hq => by cases hq
  | .inv _ :: k, k', h, hq => okT_pop k k' h hq
  | .retn :: k, _, h, _ => by cases h
  | .inBlock id' :: k, k', h, hq => by
    simp only [popTo] at h
    split at h
    · cases h; exact hq
    · exact okT_pop k k' h hq

def AllP : List Prop → Prop
  | [] => True
  | p :: l => p ∧ AllP l

theorem AllP.mem : ∀ {l : List Prop}, AllP l → ∀ p ∈ l, p
  | _ :: _, h, p, hp => by
    rcases List.mem_cons.1 hp with rfl | hp
    · exact h.1
    · exact AllP.mem h.2 p hp

/-- What is known besides where a drawn region is left standing. -/
def okTop (k : List W) (w : World) : Prop :=
  match k with
  | .opsD _ hp0 _ :: _ => HpRep hp0 w
  | _ => True

theorem okT_top {dt : List (Nat × List (Nat × Nat))} {k : List W} (h : okT dt k = true) (w : World) : okTop k w := by
  cases k with
  | nil => trivial
  | cons x k => cases x <;> first | trivial | cases h
theorem okT_W {dt : List (Nat × List (Nat × Nat))} {k : List W} (h : okT dt k = true) : okW dt k = true := by
  cases k with
  | nil => rfl
  | cons x k => cases x <;> first | exact h | cases h
theorem okW_code {dt : List (Nat × List (Nat × Nat))} {c : Code} {k : List W} (h : okW dt (.code c :: k) = true) : okC dt c = true ∧ okT dt k = true := by
  simpa only [okW, okT, Bool.and_eq_true] using h

def tails : List (Nat × Nat) → Bool
  | [] => true
  | (_, k) :: l => (2 ≤ k) && tails l

theorem tails_take : ∀ (l : List (Nat × Nat)) (n : Nat), tails l = true → tails (l.take n) = true ∧ tails (l.drop n) = true
  | [], n, _ => by simp [tails]
  | (i, k) :: l, 0, h => by simp [tails] at h ⊢; exact h
  | (i, k) :: l, n + 1, h => by
    simp only [tails, Bool.and_eq_true, List.take_succ_cons, List.drop_succ_cons] at h ⊢
    have := tails_take l n h.2
    exact ⟨⟨h.1, this.1⟩, this.2⟩

theorem seqD_tails {P : Program} {all : Array Oper} {Q : Exit → Act → World → Prop} {S S' : World → Prop} (T : World → Prop) (l : List (Nat × Nat)) (a : Act) (w : World) (ht : tails l = true) (h : wpSeqD P all Q S T l a w) : wpSeqD P all Q S' T l a w :=
  match l, ht, h with
  | [], _, h => by unfold wpSeqD at h ⊢; exact h
  | (i, k) :: l, ht, h => by
    have htt : tails l = true := by
      simp only [tails, Bool.and_eq_true] at ht
      exact ht.2
    have hk2 : 2 ≤ k := by
      simp only [tails, Bool.and_eq_true, decide_eq_true_eq] at ht
      exact ht.1
    have e0 : (k == 0) = false := by simp; omega
    have e1 : (k == 1) = false := by simp; omega
    unfold wpSeqD at h ⊢
    simp only [e0, e1, Bool.false_eq_true, if_false] at h ⊢
    split
    · rename_i h2
      simp only [h2, if_true] at h
      obtain ⟨o, v, ho, hy, hr⟩ := h
      exact ⟨o, v, ho, hy, seqD_tails T l _ w htt hr⟩
    · rename_i h2
      simp only [h2, Bool.false_eq_true, if_false] at h
      split
      · rename_i h3
        simp only [h3, if_true] at h
        exact wpOp_mono (fun a' w' h' => ⟨h'.1, seqD_tails T l a' w' htt h'.2⟩) h
      · rename_i h3
        simp only [h3, Bool.false_eq_true, if_false] at h
        split
        · rename_i h4
          simp only [h4, if_true] at h
          have h5 := tails_take l i htt
          exact ⟨seqD_tails T _ a w h5.1 h.1, seqD_tails T _ a w h5.2 h.2⟩
        · rename_i h4
          simp only [h4, Bool.false_eq_true, if_false] at h
          obtain ⟨o, v, T', ho, hy, hT', hTT, hr⟩ := h
          exact ⟨o, v, T', ho, hy, hT', hTT, seqD_tails T' l _ w htt hr⟩
termination_by l.length
decreasing_by all_goals (simp only [List.length_cons, List.length_take, List.length_drop]; omega)

/-- One operation that only computes or loads, or makes a block, or stores. -/
def sxStep (C : Cfg) (st : St) (all : Array Oper) (o : Oper) : Option (List Prop × St) :=
  match stepPure C st st.hp all o with
  | some r => some r
  | none => match stepNew C st all o with
    | some r => some r
    | none => stepStore C st all o

def stepKeep (C : Cfg) (st : St) (all : Array Oper) (o : Oper) : Option (List Prop × St) :=
  match stepPure C st st.hp all o with
  | some r => some r
  | none => stepNew C st all o

/-- A mark on what is asked. -/
def Ob (p : Prop) : Prop := p

theorem AllP.append : ∀ {l m : List Prop}, AllP (l ++ m) → AllP l ∧ AllP m
  | [], _, h => ⟨trivial, h⟩
  | _ :: l, m, h => by
    obtain ⟨h1, h2⟩ := AllP.append (l := l) h.2
    exact ⟨⟨h.1, h1⟩, h2⟩

abbrev Rec := List Bool → List Prop → List W → St → (List W → St → Prop) → Prop

def stop (acc : List Prop) (k : List W) (st : St) (K : List W → St → Prop) : Prop := Ob (AllP acc) ∧ K k st

def contS (r : Rec) (x : Option (List Prop × St)) (orc : List Bool) (acc : List Prop) (k' k : List W) (st : St) (K : List W → St → Prop) : Prop :=
  match x with
  | some (obs, st') => r orc (acc ++ obs) k' st' K
  | none => stop acc k st K

def contB (r : Rec) (x : Option SV) (d : Bool) (orc : List Bool) (acc : List Prop) (k' k : List W) (st : St) (K : List W → St → Prop) : Prop :=
  match x with
  | some (.v (.bool b)) => r orc (acc ++ [b = d]) k' st K
  | _ => stop acc k st K

def contW (r : Rec) (x : Option (List W)) (orc : List Bool) (acc : List Prop) (k : List W) (st : St) (K : List W → St → Prop) : Prop :=
  match x with
  | some k' => r orc acc k' st K
  | none => stop acc k st K

def contR (r : Rec) (x : Option (List (Nat × Nat))) (ops : Array Oper) (orc : List Bool) (acc : List Prop) (k' k : List W) (st : St) (K : List W → St → Prop) : Prop :=
  match x with
  | some ord => r orc acc (.opsD ops (thaw st.hp) ord :: k') st K
  | none => stop acc k st K

def frzStep (H : Hp) : Option (List Prop × St) → Option (List Prop × St)
  | some (obs, st') => some (obs ++ [Froz H st'.hp], st')
  | none => none

def contD (C : Cfg) (r : Rec) (x : Option Oper) (all : Array Oper) (hp0 : Hp) (kd : Nat) (l : List (Nat × Nat)) (orc : List Bool) (acc : List Prop) (k' k : List W) (st : St) (K : List W → St → Prop) : Prop :=
  match x with
  | none => stop acc k st K
  | some o => if kd == 0 then contS r (stepPure C st hp0 all o) orc acc (.opsD all hp0 l :: k') k st K
    else if kd == 1 then contS r (stepKeep C st all o) orc acc (.opsD all hp0 l :: k') k st K
    else if kd == 2 then contS r (stepPure C st [] all o) orc acc (.opsD all hp0 l :: k') k st K
    else if kd == 3 then (if tails l then contS r (frzStep (frz hp0) (sxStep C st all o)) orc acc (.opsD all (frz hp0) l :: k') k st K else stop acc k st K)
    else if kd == fork then stop acc k st K
    else contS r (stepPure C st (frz (fixB hp0 (rootIx st (kd - 4)))) all o) orc acc (.opsD all (fixB hp0 (rootIx st (kd - 4))) l :: k') k st K

/-- THE CONDITION: what the walk asks on its way, and 'K' of where it stops. 'orc': what the tests on the way say. -/
def vc (C : Cfg) : Nat → List Bool → List Prop → List W → St → (List W → St → Prop) → Prop
  | 0, _, acc, k, st, K => stop acc k st K
  | n + 1, orc, acc, k, st, K =>
    match k with
    | .code c :: k' => match c with
      | .skip => vc C n orc acc k' st K
      | .label _ => vc C n orc acc k' st K
      | .seq x y => vc C n orc acc (.code x :: .code y :: k') st K
      | .block id x => vc C n orc acc (.code x :: .inBlock id :: k') st K
      | .region _ ops false => vc C n orc acc (.ops ops ops.toList :: k') st K
      | .region id ops true => contR (vc C n) (lookN C.dt id) ops orc acc k' k st K
      | .cond c x y => match orc with
        | [] => stop acc k st K
        | d :: orc' => contB (vc C n) (opd st 0 c) d orc' acc (.code (if d then x else y) :: k') k st K
      | .exit id => contW (vc C n) (popTo id k') orc acc k st K
      | .ret => stop acc [.retn] st K
      | _ => stop acc k st K
    | .ops _ [] :: k' => vc C n orc acc k' (leave C.live st) K
    | .ops all (o :: l) :: k' => contS (vc C n) (sxStep C st all o) orc acc (.ops all l :: k') k st K
    | .opsD _ _ [] :: k' => vc C n orc acc k' (leave C.live st) K
    | .opsD all hp0 ((i, kd) :: l) :: k' => contD C (vc C n) all[i]? all hp0 kd l orc acc k' k st K
    | .inBlock _ :: k' => vc C n orc acc k' st K
    | _ => stop acc k st K

theorem vc_acc {C : Cfg} : ∀ (n : Nat) (orc : List Bool) (acc : List Prop) (k : List W) (st : St) (K : List W → St → Prop), vc C n orc acc k st K → AllP acc
  | 0, _, _, _, _, _, h => h.1
  | n + 1, orc, acc, k, st, K, h => by
    have ih := vc_acc (C := C) n
    unfold vc at h
    simp only [contS, contB, contW, contR, contD] at h
    repeat' split at h
    all_goals first
      | exact h.1
      | exact ih _ _ _ _ _ h
      | exact (AllP.append (ih _ _ _ _ _ h)).1

theorem HpRep.nil {w : World} : HpRep [] w := fun i b m o h => by simp at h
theorem HpRep.drew {H : Hp} {w : World} {n : Nat} (h : HpRep H w) : HpRep H { w with drawn := n } := fun i b m o hi => SO.rep_same (h i b m o hi) rfl
theorem Rep.drew {F : Fr} {st : St} {a : Act} {w : World} {n : Nat} (h : Rep F st a w) : Rep F st a { w with drawn := n } :=
  ⟨h.env, HpRep.drew h.hp, h.mu, h.nd, h.sz, ⟨h.kp.hB, h.kp.os, h.kp.tape, h.kp.output, h.kp.size, h.kp.block⟩⟩

theorem yields_wpOp {P : Program} {all : Array Oper} {Q : Exit → Act → World → Prop} {S : World → Prop} {o : Oper} {v : Value} {a : Act} {w : World} {K : Act → World → Prop} (hy : YieldsIf P all S o v a) (hS : S w) (h : K (a.put o.dst v) w) :
    if Region.wanted o (yielded all a.tmps) then o.wp P a w K Q ∨ (o.asks P a w ∧ LetsOut Q) else K (a.put o.dst undef) w := by
  rcases hy with ⟨hw, hv⟩ | ⟨hw, rfl⟩
  · simp only [hw, if_true, Oper.wp, hv w hS, Oper.upon]; exact .inl h
  · simp only [hw, Bool.false_eq_true, if_false]; exact h

theorem sxStep_sound {P : Program} {C : Cfg} (htt : TTok P C.tt) {F : Fr} {st st' : St} {all : Array Oper} {o : Oper} {obs : List Prop} {a : Act} {w : World} {Q : Exit → Act → World → Prop} {K : Act → World → Prop} (hr : Rep F st a w)
    (h : sxStep C st all o = some (obs, st')) (ho : ∀ p ∈ obs, p) (hK : ∀ a' w', Rep F st' a' w' → K a' w') :
    if Region.wanted o (yielded all a.tmps) then o.wp P a w K Q ∨ (o.asks P a w ∧ LetsOut Q) else K (a.put o.dst undef) w := by
  unfold sxStep at h
  split at h
  · rename_i r hs
    cases h
    obtain ⟨v, hy, he, f1, f2, f3, f4⟩ := stepPure_sound htt hr.env hs ho
    refine yields_wpOp hy hr.hp (hK _ _ (Rep.of_mem he ?_))
    rw [f1, f2, f3]; exact hr.mem
  · split at h
    · rename_i r hs
      cases h
      obtain ⟨hw, v, ob, e1, e2⟩ := stepNew_sound htt hr hs ho
      simp only [hw, if_true, Oper.wp, e1, Oper.upon]
      exact .inl (hK _ _ e2)
    · obtain ⟨hw, w', e1, e2⟩ := stepStore_sound htt hr h ho
      simp only [hw, if_true, Oper.wp, e1, Oper.upon]
      exact .inl (hK _ _ e2)

theorem stepKeep_sound {P : Program} {C : Cfg} (htt : TTok P C.tt) {F : Fr} {st st' : St} {all : Array Oper} {o : Oper} {obs : List Prop} {a : Act} {w : World} {Q : Exit → Act → World → Prop} {K : Act → World → Prop} (hr : Rep F st a w) {H : Hp} (hH : HpRep H w)
    (h : stepKeep C st all o = some (obs, st')) (ho : ∀ p ∈ obs, p) (hK : ∀ a' w', Rep F st' a' w' → HpRep H w' → K a' w') :
    if Region.wanted o (yielded all a.tmps) then o.wp P a w K Q ∨ (o.asks P a w ∧ LetsOut Q) else K (a.put o.dst undef) w := by
  unfold stepKeep at h
  split at h
  · rename_i r hs
    cases h
    obtain ⟨v, hy, he, f1, f2, f3, f4⟩ := stepPure_sound htt hr.env hs ho
    refine yields_wpOp hy hr.hp (hK _ _ (Rep.of_mem he ?_) hH)
    rw [f1, f2, f3]; exact hr.mem
  · obtain ⟨hw, v, ob, e1, e2⟩ := stepNew_sound htt hr h ho
    simp only [hw, if_true, Oper.wp, e1, Oper.upon]
    exact .inl (hK _ _ e2 (hH.alloc ob))

def PanicFree (Q : Exit → Act → World → Prop) : Prop := ∀ c (a : Act) d v w, Q (.panic c) (a.put d v) w → Q (.panic c) a w

theorem PanicFree.body {P : Program} {fn : Func} {R : Ending → World → Prop} : PanicFree (bodyPost P fn R) := fun c a d v w h => by
  cases d <;> exact h

theorem PanicFree.post {P : Program} {Q : Exit → Act → World → Prop} (h : PanicFree Q) (k : List W) : PanicFree (post P Q k) := fun c a d v w hp =>
  (post_panic k).2 (h c a d v w ((post_panic k).1 hp))

/-- THE WALK IS SOUND. -/
theorem vc_sound {P : Program} {C : Cfg} (htt : TTok P C.tt) (hm : P.follows .mixedOrders = true) {Q : Exit → Act → World → Prop} (hQ : PanicFree Q) {F : Fr} :
    ∀ (n : Nat) (orc : List Bool) (acc : List Prop) (k : List W) (st : St) (K : List W → St → Prop) (a : Act) (w : World), Rep F st a w → okTop k w → okW C.dt k = true → vc C n orc acc k st K →
      (∀ k' st' a' w', K k' st' → Rep F st' a' w' → okTop k' w' → post P Q k' .normal a' w') → post P Q k .normal a w
  | 0, orc, acc, k, st, K, a, w, hr, ht, _, h, hK => hK k st a w h.2 hr ht
  | n + 1, orc, acc, k, st, K, a, w, hr, ht, hk, h, hK => by
    have ih := vc_sound htt hm hQ (F := F) n
    unfold vc at h
    simp only [contS, contB, contW, contR, contD] at h
    split at h
    · rename_i c k'
      have hk' := okW_code hk
      split at h
      · exact wp_skip (ih _ _ _ _ K a w hr (okT_top hk'.2 w) (okT_W hk'.2) h hK)
      · exact wp_label (ih _ _ _ _ K a w hr (okT_top hk'.2 w) (okT_W hk'.2) h hK)
      · rename_i x y
        simp only [okC, Bool.and_eq_true] at hk'
        have := ih _ _ (.code x :: .code y :: k') _ K a w hr trivial (by simp [okW, okT, hk']) h hK
        refine wp_seq (Code.wp_mono (fun e a w q => ?_) this)
        cases e <;> exact q
      · rename_i id x
        simp only [okC] at hk'
        have := ih _ _ (.code x :: .inBlock id :: k') _ K a w hr trivial (by simp [okW, okT, hk']) h hK
        refine wp_block (Code.wp_mono (fun e a w q => ?_) this)
        cases e <;> exact q
      · rename_i id ops
        have := ih _ _ (.ops ops ops.toList :: k') _ K a w hr trivial (by simp [okW, okT, hk']) h hK
        exact wp_region_list this
      · rename_i id ops
        split at h
        · rename_i ord hd
          simp only [okC, hd] at hk'
          have := ih _ _ (.opsD ops (thaw st.hp) ord :: k') _ K a { w with drawn := w.drawn + 1 } hr.drew (HpRep.thaw (HpRep.drew hr.hp)) (by simp [okW, hk']) h hK
          exact wp_region_seqD hm hk'.1 (fun c a d v w => hQ.post k' c a d v w) (HpRep.thaw (HpRep.drew hr.hp)) (HpRep.frz (HpRep.thaw (HpRep.drew hr.hp))) this
        · exact hK _ _ a w h.2 hr ht
      · rename_i c x y
        split at h
        · exact hK _ _ a w h.2 hr ht
        · rename_i d orc'
          split at h
          · rename_i b hb
            have h1 : b = d := ((vc_acc _ _ _ _ _ _ h |> AllP.append).2).1
            have h2 := h
            subst h1
            have hc : a.eval c = .bool b := opd_sound (c := 0) hr.env rfl hb
            simp only [okC, Bool.and_eq_true] at hk'
            have := ih _ _ (.code (if b then x else y) :: k') _ K a w hr trivial (by cases b <;> simp [okW, okT, hk']) h2 hK
            exact wp_cond hc this
          · exact hK _ _ a w h.2 hr ht
      · rename_i id
        split at h
        · rename_i k'' hp
          have h2 := okT_pop k' k'' hp hk'.2
          exact wp_exit (post_exit k' k'' hp (ih _ _ _ _ K a w hr (okT_top h2 w) (okT_W h2) h hK))
        · exact hK _ _ a w h.2 hr ht
      · exact wp_ret (post_ret k' (hK _ _ a w h.2 hr trivial))
      · exact hK _ _ a w h.2 hr ht
    · rename_i all k'
      have hk' : okT C.dt k' = true := hk
      exact ih _ _ k' _ K a w (leave_rep hr) (okT_top hk' w) (okT_W hk') h hK
    · rename_i all o l k'
      have hk' : okT C.dt k' = true := hk
      split at h
      · rename_i obs st' hs
        have h1 := (AllP.append (vc_acc _ _ _ _ _ _ h)).2
        have h2 := h
        have := sxStep_sound (Q := post P Q k') (K := wpList P all (post P Q k') l) htt hr hs h1.mem (fun a' w' hr' => ih _ _ (.ops all l :: k') _ K a' w' hr' trivial hk' h2 hK)
        show wpList P all (post P Q k') (o :: l) a w
        unfold wpList
        exact this
      · exact hK _ _ a w h.2 hr ht
    · rename_i all hp0 k'
      have hk' : okT C.dt k' = true := hk
      show wpSeqD P all (post P Q k') (HpRep hp0) (HpRep (frz hp0)) [] a w
      unfold wpSeqD
      exact ih _ _ k' _ K a w (leave_rep hr) (okT_top hk' w) (okT_W hk') h hK
    · rename_i all hp0 i kd l k'
      have hk' : okT C.dt k' = true := hk
      split at h
      · exact hK _ _ a w h.2 hr ht
      · rename_i o hi
        show wpSeqD P all (post P Q k') (HpRep hp0) (HpRep (frz hp0)) ((i, kd) :: l) a w
        split at h
        · rename_i hkd
          split at h
          · rename_i obs st' hs
            have h1 := (AllP.append (vc_acc _ _ _ _ _ _ h)).2
            have h2 := h
            obtain ⟨v, hy, he, f1, f2, f3, f4⟩ := stepPure_sound htt hr.env hs h1.mem
            have hr' : Rep F st' (a.put o.dst v) w := Rep.of_mem he (by rw [f1, f2, f3]; exact hr.mem)
            simp only [wpSeqD, hkd, if_true]
            exact ⟨o, v, hi, hy, ih _ _ (.opsD all hp0 l :: k') _ K _ w hr' ht hk' h2 hK⟩
          · exact hK _ _ a w h.2 hr ht
        · rename_i hkd
          split at h
          · rename_i hkd1
            split at h
            · rename_i obs st' hs
              have h1 := (AllP.append (vc_acc _ _ _ _ _ _ h)).2
              have h2 := h
              simp only [wpSeqD, hkd, hkd1, if_true, Bool.false_eq_true, if_false]
              unfold wpOp
              simp only [hi]
              exact stepKeep_sound htt hr ht hs h1.mem (fun a' w' hr' hH => ⟨hH, HpRep.frz hH, ih _ _ (.opsD all hp0 l :: k') _ K a' w' hr' hH hk' h2 hK⟩)
            · exact hK _ _ a w h.2 hr ht
          · rename_i hkd1
            split at h
            · rename_i hkd2
              split at h
              · rename_i obs st' hs
                have h1 := (AllP.append (vc_acc _ _ _ _ _ _ h)).2
                have h2 := h
                obtain ⟨v, hy, he, f1, f2, f3, f4⟩ := stepPure_sound htt hr.env hs h1.mem
                have hr' : Rep F st' (a.put o.dst v) w := Rep.of_mem he (by rw [f1, f2, f3]; exact hr.mem)
                simp only [wpSeqD, hkd, hkd1, hkd2, if_true, Bool.false_eq_true, if_false]
                refine ⟨o, v, hi, ?_, ih _ _ (.opsD all hp0 l :: k') _ K _ w hr' ht hk' h2 hK⟩
                exact hy.imp (fun ⟨x, y⟩ => ⟨x, fun w _ => y w HpRep.nil⟩) id
              · exact hK _ _ a w h.2 hr ht
            · rename_i hkd2
              split at h
              · rename_i hkd3
                split at h
                · rename_i htl
                  split at h
                  · rename_i obs st' hs
                    have h1 := (AllP.append (vc_acc _ _ _ _ _ _ h)).2
                    have h2 := h
                    simp only [wpSeqD, hkd, hkd1, hkd2, hkd3, if_true, Bool.false_eq_true, if_false]
                    unfold frzStep at hs
                    split at hs
                    · rename_i obs3 st3 hs3
                      cases hs
                      have h4 := AllP.append h1
                      unfold wpOp
                      simp only [hi]
                      refine sxStep_sound htt hr hs3 h4.1.mem (fun a' w' hr' => ?_)
                      have h5 : HpRep (frz hp0) w' := Froz.rep h4.2.1 hr'.hp
                      have h6 := ih _ _ (.opsD all (frz hp0) l :: k') _ K a' w' hr' h5 hk' h2 hK
                      change wpSeqD P all (post P Q k') (HpRep (frz hp0)) (HpRep (frz (frz hp0))) l a' w' at h6
                      rw [frz_frz] at h6
                      exact ⟨h5, seqD_tails _ l _ _ htl h6⟩
                    · cases hs
                  · exact hK _ _ a w h.2 hr ht
                · exact hK _ _ a w h.2 hr ht
              · rename_i hkd3
                split at h
                · exact hK _ _ a w h.2 hr ht
                rename_i hkd4
                split at h
                · rename_i obs st' hs
                  have h1 := (AllP.append (vc_acc _ _ _ _ _ _ h)).2
                  have h2 := h
                  obtain ⟨v, hy, he, f1, f2, f3, f4⟩ := stepPure_sound htt hr.env hs h1.mem
                  have hr' : Rep F st' (a.put o.dst v) w := Rep.of_mem he (by rw [f1, f2, f3]; exact hr.mem)
                  simp only [wpSeqD, hkd, hkd1, hkd2, hkd3, hkd4, if_true, Bool.false_eq_true, if_false]
                  have ht0 : HpRep (fixB hp0 (rootIx st (kd - 4))) w := (HpRep_fixB _ _ _).2 ht
                  have h6 := ih _ _ (.opsD all (fixB hp0 (rootIx st (kd - 4))) l :: k') _ K _ w hr' ht0 hk' h2 hK
                  change wpSeqD P all (post P Q k') (HpRep (fixB hp0 (rootIx st (kd - 4)))) (HpRep (frz (fixB hp0 (rootIx st (kd - 4))))) l _ w at h6
                  have e9 : HpRep (fixB hp0 (rootIx st (kd - 4))) = HpRep hp0 := funext fun w => propext (HpRep_fixB _ _ w)
                  rw [e9] at h6
                  exact ⟨o, v, _, hi, hy, HpRep.frz ht0, fun w => frz_fixB _ _ w, h6⟩
                · exact hK _ _ a w h.2 hr ht
    · rename_i id k'
      have hk' : okT C.dt k' = true := hk
      exact ih _ _ k' _ K a w hr (okT_top hk' w) (okT_W hk') h hK
    · exact hK _ _ a w h.2 hr ht

end Go.SX
