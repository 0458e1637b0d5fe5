/-
  Part 7: guards, operations that make or change a block, and one step of a list of operations. Holds for every program.
-/
import Derived.Test.YtnmjdelnllchdaaSx6
namespace Go.SX
set_option linter.unusedVariables false
set_option linter.unusedSimpArgs false
set_option linter.unusedSectionVars false
open Go

/-! ### Guards -/
inductive GR where
  | go (cs : List Bool) (ks : List Ks) (ci : Nat) (obs : List Prop)
  | skip (obs : List Prop)

def findK : List Ks → Nat → Bool → Option Ks
  | [], _, _ => none
  | r :: l, t, b => if r.tj == t && r.want == b then some r else findK l t b

theorem findK_mem {l : List Ks} {t : Nat} {b : Bool} {r : Ks} (h : findK l t b = some r) : r ∈ l ∧ r.tj = t ∧ r.want = b := by
  induction l with
  | nil => cases h
  | cons x l ih =>
    simp only [findK] at h
    split at h
    · rename_i hc
      cases h
      simp only [Bool.and_eq_true, beq_iff_eq] at hc
      exact ⟨by simp, hc.1, hc.2⟩
    · obtain ⟨h1, h2⟩ := ih h
      exact ⟨by simp [h1], h2⟩

def guardIx (st : St) (all : Array Oper) : Option (Nat × Bool) → Option GR
  | none => some (.go st.cs st.ks 0 [])
  | some (j, want) => match (all[j]?).bind (·.dst) with
    | none => none
    | some tj => match look st.env tj with
      | some (pi, .v (.bool B)) => match lookB st.gd tj with
        | some d => if d == want then some (.go st.cs st.ks pi [cnd st.cs pi = true → B = d]) else some (.skip [cnd st.cs pi = true → B = d])
        | none => match findK st.ks tj want with
          | some r => some (.go st.cs st.ks r.ci [])
          | none => some (.go (st.cs ++ [cnd st.cs pi && (B == want)]) (⟨tj, want, st.cs.length + 1, pi, B⟩ :: st.ks) (st.cs.length + 1) [])
      | some (_, .v (.tuple l)) => if l.size == 0 then some (.skip []) else none
      | _ => none

theorem cnd_append {cs : List Bool} {x : Bool} {i : Nat} (h : i ≤ cs.length) : cnd (cs ++ [x]) i = cnd cs i := by
  cases i with
  | zero => rfl
  | succ n =>
    have : n < cs.length := h
    simp [cnd, List.getElem?_append_left this]
theorem cnd_last {cs : List Bool} {x : Bool} : cnd (cs ++ [x]) (cs.length + 1) = x := by simp [cnd]

theorem wanted_eq (all : Array Oper) (a : Act) (o : Oper) {j : Nat} {want : Bool} {tj : Nat} {C B : Bool} (hg : o.guard = some (j, want)) (hj : (all[j]?).bind (·.dst) = some tj)
    (ht : a.tmps[tj]? = some (if C then Value.bool B else undef)) : Region.wanted o (yielded all a.tmps) = (C && (B == want)) := by
  simp only [Region.wanted, hg, yielded, hj, Option.bind_some, ht]
  cases C <;> simp [undef]

theorem guardIx_go {st : St} {all : Array Oper} {o : Oper} {cs : List Bool} {ks : List Ks} {ci : Nat} {obs : List Prop} {a : Act} (hr : EnvRep st a) (h : guardIx st all o.guard = some (.go cs ks ci obs)) (ho : ∀ p ∈ obs, p) :
    EnvRep { st with cs := cs, ks := ks } a ∧ Region.wanted o (yielded all a.tmps) = cnd cs ci ∧ ci ≤ cs.length := by
  obtain ⟨h1, h2, h3, h4⟩ := hr
  unfold guardIx at h
  split at h
  · rename_i hg
    cases h
    exact ⟨⟨h1, h2, h3, h4⟩, by simp [Region.wanted, hg, cnd], Nat.zero_le _⟩
  · rename_i j want hg
    split at h
    · cases h
    rename_i tj hj
    split at h
    · rename_i pi B hl
      obtain ⟨hb, ht⟩ := h3 _ _ _ hl
      simp only [den] at ht
      have hw := wanted_eq all a o hg hj ht
      split at h
      · rename_i d hd
        split at h
        · rename_i hdw
          cases h
          have hdw' : d = want := by simpa using hdw
          have := ho _ (List.mem_singleton.2 rfl)
          refine ⟨⟨h1, h2, h3, h4⟩, ?_, hb⟩
          rw [hw]
          cases hC : cnd st.cs ci
          · simp
          · simp [this hC, hdw']
        · cases h
      · split at h
        · rename_i r hk
          cases h
          obtain ⟨hm, e1, e2⟩ := findK_mem hk
          obtain ⟨⟨b1, b2⟩, e3, e4⟩ := h4 r hm
          refine ⟨⟨h1, h2, h3, h4⟩, ?_, b1⟩
          rw [e4]
          exact wanted_eq all a o (by rw [e2]; exact hg) hj (by rw [← e1]; exact e3)
        · cases h
          refine ⟨⟨h1, h2, fun t c x hx => ?_, fun r hm => ?_⟩, by rw [hw, cnd_last], by simp⟩
          · obtain ⟨b1, b2⟩ := h3 t c x hx
            exact ⟨by simp; omega, by rw [cnd_append b1]; exact b2⟩
          · rcases List.mem_cons.1 hm with rfl | hm
            · exact ⟨⟨by simp, by simp; omega⟩, by rw [cnd_append hb]; exact ht, by rw [cnd_last, cnd_append hb]⟩
            · obtain ⟨⟨b1, b2⟩, e3, e4⟩ := h4 r hm
              exact ⟨⟨by simp; omega, by simp; omega⟩, by rw [cnd_append b2]; exact e3, by rw [cnd_append b1, cnd_append b2]; exact e4⟩
    · split at h <;> cases h
    · cases h

theorem guardIx_skip {st : St} {all : Array Oper} {o : Oper} {obs : List Prop} {a : Act} (hr : EnvRep st a) (h : guardIx st all o.guard = some (.skip obs)) (ho : ∀ p ∈ obs, p) :
    Region.wanted o (yielded all a.tmps) = false := by
  obtain ⟨h1, h2, h3, h4⟩ := hr
  unfold guardIx at h
  split at h
  · cases h
  · rename_i j want hg
    split at h
    · cases h
    rename_i tj hj
    split at h
    · rename_i pi B hl
      obtain ⟨hb, ht⟩ := h3 _ _ _ hl
      simp only [den] at ht
      have hw := wanted_eq all a o hg hj ht
      split at h
      · rename_i d hd
        split at h
        · cases h
        · rename_i hdw
          cases h
          have hdw' : ¬ d = want := by simpa using hdw
          have := ho _ (List.mem_singleton.2 rfl)
          rw [hw]
          cases hC : cnd st.cs pi
          · rfl
          · rw [this hC]; simp [hdw']
      · split at h <;> cases h
    · rename_i pi l hl
      split at h
      · rename_i hz
        have hl0 : l = #[] := by simpa using hz
        subst hl0
        obtain ⟨hb, ht⟩ := h3 _ _ _ hl
        simp only [den] at ht
        have ht' : a.tmps[tj]? = some undef := by
          rw [ht]
          split <;> rfl
        simp only [Region.wanted, hg, yielded, hj, Option.bind_some, ht']
        simp [undef]
      · cases h
    · cases h

/-! ### Slots -/
def putS (st : St) (dst : Option Nat) (ci : Nat) (x : SV) : Option St :=
  match dst with
  | none => some st
  | some d => if d < st.nt && st.ks.all (fun r => r.tj != d) then some { st with env := (d, ci, x) :: st.env } else none

theorem putS_sound {st st' : St} {dst : Option Nat} {ci : Nat} {x : SV} {a : Act} (hr : EnvRep st a) (hb : ci ≤ st.cs.length) (h : putS st dst ci x = some st') :
    EnvRep st' (a.put dst (if cnd st.cs ci then den x else undef)) := by
  cases dst with
  | none => cases h; exact hr
  | some d =>
    simp only [putS] at h
    split at h
    · rename_i hc
      cases h
      simp only [Bool.and_eq_true, decide_eq_true_eq, List.all_eq_true, bne_iff_ne, ne_eq] at hc
      obtain ⟨h1, h2, h3, h4⟩ := hr
      refine ⟨by simp [Act.put, h1], h2, fun t c y hy => ?_, fun r hm => ?_⟩
      · simp only [look] at hy
        split at hy
        · rename_i hdt
          cases hy
          have hdt' : d = t := by simpa using hdt
          subst hdt'
          refine ⟨hb, ?_⟩
          simp only [Act.put, Array.getElem?_setIfInBounds_self, h1, hc.1, if_true]
        · rename_i hdt
          have hdt' : ¬ d = t := by simpa using hdt
          obtain ⟨b1, b2⟩ := h3 t c y hy
          exact ⟨b1, by simp only [Act.put, Array.getElem?_setIfInBounds_ne hdt']; exact b2⟩
      · obtain ⟨b1, b2, b3⟩ := h4 r hm
        have hne : ¬ d = r.tj := fun e => hc.2 r hm e.symm
        exact ⟨b1, by simp only [Act.put, Array.getElem?_setIfInBounds_ne hne]; exact b2, b3⟩
    · cases h

theorem putS_fields {st st' : St} {dst : Option Nat} {ci : Nat} {x : SV} (h : putS st dst ci x = some st') : st'.hp = st.hp ∧ st'.s = st.s ∧ st'.k = st.k ∧ st'.nt = st.nt ∧ st'.cs = st.cs := by
  cases dst with
  | none => cases h; exact ⟨rfl, rfl, rfl, rfl, rfl⟩
  | some d =>
    simp only [putS] at h
    split at h
    · cases h; exact ⟨rfl, rfl, rfl, rfl, rfl⟩
    · cases h

/-! ### Operations that only compute or load -/
def gobs (cs : List Bool) (ci : Nat) (obs : List Prop) : List Prop := if ci = 0 then obs else obs.map fun p => (cnd cs ci = true → p)

theorem gobs_sound {cs : List Bool} {ci : Nat} {obs : List Prop} (h : ∀ p ∈ gobs cs ci obs, p) (hc : cnd cs ci = true) : ∀ p ∈ obs, p := by
  unfold gobs at h
  split at h
  · exact h
  · intro p hp
    exact h (cnd cs ci = true → p) (List.mem_map.2 ⟨p, hp, rfl⟩) hc

structure Cfg where
  tt : List (Nat × TI)
  live : List Nat
  dt : List (Nat × List (Nat × Nat))
  nw : Bool

def stepPure (C : Cfg) (st : St) (hp : Hp) (all : Array Oper) (o : Oper) : Option (List Prop × St) :=
  match guardIx st all o.guard with
  | none => none
  | some (.skip obs) => (putS st o.dst 0 (.v undef)).map fun s => (obs, s)
  | some (.go cs ks ci obs) => match evOp C.nw C.tt { st with cs := cs, ks := ks } hp ci o.op with
    | some (obs', x) => (putS { st with cs := cs, ks := ks } o.dst ci x).map fun s => (obs ++ gobs cs ci obs', s)
    | none => none

theorem stepPure_sound {P : Program} {C : Cfg} (htt : TTok P C.tt) {st st' : St} {hp : Hp} {all : Array Oper} {o : Oper} {obs : List Prop} {a : Act} (hr : EnvRep st a)
    (h : stepPure C st hp all o = some (obs, st')) (ho : ∀ p ∈ obs, p) :
    ∃ v, YieldsIf P all (HpRep hp) o v a ∧ EnvRep st' (a.put o.dst v) ∧ st'.hp = st.hp ∧ st'.s = st.s ∧ st'.k = st.k ∧ st'.nt = st.nt := by
  unfold stepPure at h
  split at h
  · cases h
  · rename_i obs' hg
    simp only [Option.map_eq_some_iff, Prod.mk.injEq] at h
    obtain ⟨s, hs, h1, h2⟩ := h
    subst h1; subst h2
    obtain ⟨f1, f2, f3, f4, f5⟩ := putS_fields hs
    have := putS_sound hr (Nat.zero_le _) hs
    simp only [cnd, if_true, den] at this
    exact ⟨undef, .inr ⟨guardIx_skip hr hg ho, rfl⟩, this, f1, f2, f3, f4⟩
  · rename_i cs ks ci obs' hg
    split at h
    · rename_i obs2 x he
      simp only [Option.map_eq_some_iff, Prod.mk.injEq] at h
      obtain ⟨s, hs, h1, h2⟩ := h
      subst h1; subst h2
      obtain ⟨f1, f2, f3, f4, f5⟩ := putS_fields hs
      obtain ⟨g1, g2, g3⟩ := guardIx_go hr hg (fun p hp => ho p (by simp [hp]))
      have hput := putS_sound g1 g3 hs
      refine ⟨_, ?_, hput, f1, f2, f3, f4⟩
      cases hc : cnd cs ci
      · exact .inr ⟨by rw [g2, hc], by simp⟩
      · refine .inl ⟨by rw [g2, hc], fun w hw => ?_⟩
        have ho2 : ∀ p ∈ obs2, p := gobs_sound (fun p hp => ho p (by simp [hp])) hc
        have := evOp_sound htt g1 hc hw he ho2
        simpa using this
    · cases h

/-! ### New blocks -/
theorem Keeps.alloc {F : Fr} {w : World} (h : Keeps F w) (o : Obj) : Keeps F (w.alloc o) :=
  ⟨h.hB, h.os, h.tape, h.output, by have := h.size; show _ ≤ (w.heap.push o).size; simp; omega, fun k hk hm => by
    rw [← h.block k hk hm]
    have h1 : k < w.heap.size := Nat.lt_of_lt_of_le hk (Nat.le_trans h.hB h.size)
    show (w.heap.push o)[k]? = _
    rw [Array.getElem?_push, if_neg (by omega)]⟩

theorem heap_alloc_lt {w : World} {o : Obj} {k : Nat} (h : k < w.heap.size) : (w.alloc o).heap[k]? = w.heap[k]? := by
  show (w.heap.push o)[k]? = _
  rw [Array.getElem?_push, if_neg (by omega)]
theorem heap_alloc_new {w : World} {o : Obj} : (w.alloc o).heap[w.heap.size]? = some o := by
  show (w.heap.push o)[w.heap.size]? = _
  simp

theorem HpRep.alloc {hp : Hp} {w : World} (h : HpRep hp w) (o : Obj) : HpRep hp (w.alloc o) := fun i b m s hi =>
  SO.rep_same (h i b m s hi) (heap_alloc_lt (SO.rep_lt (h i b m s hi)))

/-- What of a state holds of memory. -/
structure MemRep (F : Fr) (H : Hp) (s k : Nat) (w : World) : Prop where
  hp : HpRep H w
  mu : ∀ (i b : Nat) (o : SO), H[i]? = some (b, true, o) → F.B ≤ b ∨ b ∈ F.M
  nd : ∀ (i j : Nat) (x y : Nat × Bool × SO), H[i]? = some x → H[j]? = some y → x.1 = y.1 → i = j
  sz : w.heap.size = s + k
  kp : Keeps F w

theorem Rep.mem {F : Fr} {st : St} {a : Act} {w : World} (h : Rep F st a w) : MemRep F st.hp st.s st.k w := ⟨h.hp, h.mu, h.nd, h.sz, h.kp⟩
theorem Rep.of_mem {F : Fr} {st : St} {a : Act} {w : World} (he : EnvRep st a) (h : MemRep F st.hp st.s st.k w) : Rep F st a w := ⟨he, h.hp, h.mu, h.nd, h.sz, h.kp⟩

theorem get_append_one {α : Type} {l : List α} {x y : α} {i : Nat} (h : (l ++ [x])[i]? = some y) : l[i]? = some y ∨ (i = l.length ∧ y = x) := by
  rcases Nat.lt_trichotomy i l.length with h1 | h1 | h1
  · rw [List.getElem?_append_left h1] at h; exact .inl h
  · subst h1; simp at h; exact .inr ⟨rfl, h.symm⟩
  · rw [List.getElem?_append_right (by omega)] at h
    rw [List.getElem?_eq_none (by simp; omega)] at h
    cases h

theorem MemRep.alloc {F : Fr} {hp : Hp} {s k : Nat} {w : World} (h : MemRep F hp s k w) {o : Obj} {so : SO} (hso : so.rep (w.alloc o) (s + k)) : MemRep F (hp ++ [(s + k, true, so)]) s (k + 1) (w.alloc o) where
  hp := fun i b m t hi => by
    rcases get_append_one hi with h1 | ⟨_, h1⟩
    · exact h.hp.alloc o i b m t h1
    · cases h1; exact hso
  mu := fun i b t hi => by
    rcases get_append_one hi with h1 | ⟨_, h1⟩
    · exact h.mu i b t h1
    · cases h1
      have := h.kp.size
      have := h.kp.hB
      have := h.sz
      exact .inl (by omega)
  nd := fun i j x y hi hj hxy => by
    rcases get_append_one hi with h1 | ⟨e1, h1⟩ <;> rcases get_append_one hj with h2 | ⟨e2, h2⟩
    · exact h.nd i j x y h1 h2 hxy
    · subst h2
      have := SO.rep_lt (h.hp i x.1 x.2.1 x.2.2 h1)
      rw [h.sz, hxy] at this
      exact absurd this (by simp)
    · subst h1
      have := SO.rep_lt (h.hp j y.1 y.2.1 y.2.2 h2)
      rw [h.sz, ← hxy] at this
      exact absurd this (by simp)
    · omega
  sz := by show (w.heap.push o).size = _; rw [Array.size_push, h.sz]; omega
  kp := h.kp.alloc o

/-- Operations that make one block: what is yielded, and the block. -/
def evNew (tt : List (Nat × TI)) (st : St) (c : Nat) : Op → Option (SV × SO)
  | .alloc t => match lookT tt t with
    | some ti => some (.ptr st.hp.length (st.s + st.k) 0, .cells (cellsV ti.zero) t)
    | none => none
  | .box t x => match opd st c x with
    | some y => some (.ptr st.hp.length (st.s + st.k) 0, .cells y.cells t)
    | none => none
  | .buildSlice t n parts => match lookT tt t with
    | some { d := .slice e, .. } => match lookT tt e, opds st c (parts.toList.map (·.2)) with
      | some te, some l =>
        if parts.toList.map (·.1) = List.range n ∧ l.all (fun y => y.cells.length == te.sz) ∧ n * te.sz ≤ 16777216 ∧ te.sz ≠ 0 then
          some (.sl st.hp.length (st.s + st.k) 0 0 n n te.sz, .arr 0 n (fun j => (l.map SV.cells).getD j []) te.sz e (0, 0))
        else none
      | _, _ => none
    | _ => none
  | .makeMap _ none => some (.mp st.hp.length (st.s + st.k), .imap fun _ => none)
  | .makeSlice t x y => match lookT tt t with
    | some { d := .slice e, .. } => match lookT tt e, opd st c x, opd st c y with
      | some te, some (.v (.int _ n1)), some (.v (.int _ n2)) =>
        if 0 ≤ n1 ∧ n1 ≤ n2 ∧ n2 * te.by_ ≤ 16777216 ∧ n2 ≤ 16777216 ∧ te.zero.cells.size = te.sz ∧ te.sz ≠ 0 then
          some (.sl st.hp.length (st.s + st.k) 0 0 n1.toNat n2.toNat te.sz, .arr 0 n2.toNat (fun _ => te.zero.cells.toList.map .v) te.sz e (0, 0))
        else none
      | _, _, _ => none
    | _ => none
  | _ => none

theorem cells_of_literal {rows : List (List SV)} {sz : Nat} (h : ∀ r ∈ rows, r.length = sz) : ArrRep (denL rows.flatten).toArray 0 rows.length (fun j => rows.getD j []) sz := by
  induction rows with
  | nil => exact ⟨by simp [denL], fun j hj => by simp at hj⟩
  | cons r rows ih =>
    have hr : r.length = sz := h r (by simp)
    obtain ⟨h1, h2⟩ := ih (fun x hx => h x (by simp [hx]))
    simp only [List.size_toArray, denL_length, Nat.zero_add] at h1
    refine ⟨by simp [denL_length, hr, Nat.add_mul] at *; omega, fun j hj => ?_⟩
    cases j with
    | zero =>
      refine ⟨by simpa using hr, fun s hs => ?_⟩
      rw [Nat.zero_add]
      simp only [List.flatten_cons, denL_append, List.getElem?_toArray, Nat.zero_mul, Nat.zero_add, List.getD_cons_zero]
      rw [List.getElem?_append_left (by rw [denL_length]; omega)]
    | succ j =>
      obtain ⟨h3, h4⟩ := h2 j (by simpa using hj)
      refine ⟨by simpa using h3, fun s hs => ?_⟩
      have := h4 s hs
      rw [Nat.zero_add] at this ⊢
      simp only [List.getElem?_toArray] at this
      simp only [List.flatten_cons, denL_append, List.getElem?_toArray, List.getD_cons_succ]
      rw [List.getElem?_append_right (by rw [denL_length]; simp [Nat.add_mul]; omega), denL_length, ← this]
      congr 1
      rw [hr, Nat.add_mul]; omega

theorem fill_rows {sz : Nat} : ∀ (l : List SV) (pre : List SV) (m : Nat) (post : List SV), (∀ y ∈ l, y.cells.length = sz) → pre.length = m * sz → post.length = l.length * sz →
    evFill (fun i => some (i * sz, sz)) (pre ++ post) ((List.range' m l.length).zip l) = some (pre ++ (l.map SV.cells).flatten)
  | [], pre, m, post, _, _, hp => by
    have : post = [] := List.length_eq_zero_iff.1 (by simpa using hp)
    simp [evFill, this]
  | y :: l, pre, m, post, hy, hpre, hp => by
    have h1 : y.cells.length = sz := hy y (by simp)
    simp only [List.length_cons, Nat.add_mul, Nat.one_mul] at hp
    simp only [List.length_cons, List.range'_succ, List.zip_cons_cons, evFill]
    rw [if_pos ⟨h1, by simp; omega⟩]
    have h2 : spliceL (pre ++ post) (m * sz) y.cells = (pre ++ y.cells) ++ post.drop sz := by
      unfold spliceL
      rw [← hpre, List.take_left, List.drop_append, List.append_assoc]
      congr 2
      rw [List.drop_eq_nil_of_le (by omega), List.nil_append]
      congr 1; omega
    rw [h2, fill_rows l (pre ++ y.cells) (m + 1) (post.drop sz) (fun z hz => hy z (by simp [hz])) (by simp [hpre, h1, Nat.add_mul]) (by simp; omega)]
    simp

theorem evNew_sound {P : Program} {tt : List (Nat × TI)} (htt : TTok P tt) {F : Fr} {st : St} {c : Nat} {o : Oper} {x : SV} {so : SO} {a : Act} {w : World}
    (he : EnvRep st a) (hm : MemRep F st.hp st.s st.k w) (hc : cnd st.cs c = true) (h : evNew tt st c o.op = some (x, so)) :
    ∃ ob, (execOp a.eval o).run P w = .ok (.value (den x)) (w.alloc ob) ∧ so.rep (w.alloc ob) (st.s + st.k) := by
  have hsz : w.heap.size = st.s + st.k := hm.sz
  unfold evNew at h
  split at h
  · rename_i t hop
    split at h
    · rename_i ti hti
      cases h
      refine ⟨.cells ti.zero.cells t, ?_, ?_⟩
      · simp only [execOp, hop, Instr.alloc, Sem.run_bind, run_zeroValue' (htt _ _ hti), Result.andThen_ok, newVar, newRow, newObj, Sem.run, Sem.run_pure, den, hsz]
        rfl
      · show (w.alloc _).heap[st.s + st.k]? = _
        rw [← hsz, heap_alloc_new, denL_cellsV]
    · cases h
  · rename_i t y hop
    split at h
    · rename_i z hz
      cases h
      refine ⟨.cells (den z).cells t, ?_, ?_⟩
      · simp only [execOp, hop, Instr.box, opd_sound he hc hz, Sem.run_bind, Result.andThen_ok, newVar, newRow, newObj, Sem.run, Sem.run_pure, den, hsz]
        rfl
      · show (w.alloc _).heap[st.s + st.k]? = _
        rw [← hsz, heap_alloc_new, SV.cells_den]
    · cases h
  · rename_i t n parts hop
    split at h
    · rename_i e _ _ _ hti
      split at h
      · rename_i te l hte hl
        split at h
        · rename_i hcond
          obtain ⟨c1, c2, c3, c4⟩ := hcond
          cases h
          have hu := (htt _ _ hti).slice rfl
          have hlen : l.length = n := by
            have h1 : (parts.toList.map (·.1)).length = n := by rw [c1]; simp
            have h2 := opds_sound he hc _ _ hl
            have h3 := congrArg List.length h2
            simp [denL_length] at h3 h1
            omega
          have c2' : ∀ y ∈ l, y.cells.length = te.sz := by simpa [List.all_eq_true] using c2
          have hrows := cells_of_literal (rows := l.map SV.cells) (sz := te.sz) (by
            intro r hr
            obtain ⟨y, hy, rfl⟩ := List.mem_map.1 hr
            exact c2' y hy)
          refine ⟨.cells (denL (l.map SV.cells).flatten).toArray e, ?_, ?_⟩
          · have e1 := zip_den he hc hl
            rw [c1] at e1
            obtain ⟨xi, hi1, hi2, hi3, hi4⟩ := (htt _ _ hte).info
            have hfill : ∀ z : Array Value, Instr.fill (fun i => some (i * te.sz, te.sz)) ((Array.range (n * te.sz)).map (z[· % z.size]!)) (parts.map fun (i, x) => (i, a.eval x)).toList = some (denL (l.map SV.cells).flatten).toArray := by
              intro z
              have hf := evFill_sound (places := fun i => some (i * te.sz, te.sz)) ((List.range n).zip l) ((((Array.range (n * te.sz)).map (z[· % z.size]!)).toList).map .v) ((l.map SV.cells).flatten) (by
                have := fill_rows l [] 0 ((((Array.range (n * te.sz)).map (z[· % z.size]!)).toList).map .v) c2' (by simp) (by simp [hlen])
                rw [List.nil_append, hlen, ← List.range_eq_range'] at this
                exact this)
              rw [denL_map_v] at hf
              have hA : ((Array.range (n * te.sz)).map (z[· % z.size]!)).toList.toArray = (Array.range (n * te.sz)).map (z[· % z.size]!) := Array.toArray_toList
              rw [hA] at hf
              rw [Array.toList_map, e1]
              exact hf
            have hlim : ¬ n * te.sz > 2 ^ 24 := by omega
            by_cases hz : n * te.sz = 0
            · simp only [execOp, hop, Instr.buildSlice, Sem.run_bind, run_underlying hu, Result.andThen_ok, run_sizeOf' (htt _ _ hte), if_neg hlim, if_pos hz, hfill, newRow, newObj, Sem.run, Sem.run_pure, den, hsz, Nat.zero_mul]
              rfl
            · simp only [execOp, hop, Instr.buildSlice, Sem.run_bind, run_underlying hu, Result.andThen_ok, run_sizeOf' (htt _ _ hte), if_neg hlim, if_neg hz, run_zeroValue' (htt _ _ hte), hfill, newRow, newObj, Sem.run, Sem.run_pure, den, hsz, Nat.zero_mul]
              rfl
          · rw [List.length_map, hlen] at hrows
            exact ⟨(denL (l.map SV.cells).flatten).toArray, by rw [← hsz]; exact heap_alloc_new, hrows⟩
        · cases h
      · cases h
    · cases h
  · rename_i t hop
    cases h
    refine ⟨.map #[] 0, ?_, ?_⟩
    · simp only [execOp, hop, Instr.makeMap, Sem.run_bind, Option.map_none, Sem.run_pure, Result.andThen_ok, newObj, Sem.run, den, hsz]
      rfl
    · refine ⟨#[], 0, ?_, IMap.empty⟩
      rw [← hsz, heap_alloc_new]
  · rename_i t x y hop
    split at h
    · rename_i e _ _ _ hti
      split at h
      · rename_i te k1 n1 k2 n2 hte hx hy
        split at h
        · rename_i hcond
          obtain ⟨c1, c2, c3, c4, c5, c6⟩ := hcond
          cases h
          have hu := (htt _ _ hti).slice rfl
          obtain ⟨xi, hi1, hi2, hi3, hi4⟩ := (htt _ _ hte).info
          have ex : a.eval x = .int k1 n1 := by have := opd_sound he hc hx; simpa [den] using this
          have ey : a.eval y = .int k2 n2 := by have := opd_sound he hc hy; simpa [den] using this
          have w1 : IntKind.i64.wrap n1 = n1 := wrap_inK (by unfold inK; omega)
          have w2 : IntKind.i64.wrap n2 = n2 := wrap_inK (by unfold inK; omega)
          have hinfo : (typeInfo e).run P w = .ok xi w := by simp [typeInfo, hi1]
          have hn0 : ¬ (te.by_ : Int) * n2 > 2 ^ 48 := by rw [Int.mul_comm]; omega
          have hroom : ¬ n2.toNat * te.by_ > roomBytes := by
            have : ((n2.toNat * te.by_ : Nat) : Int) = n2 * te.by_ := by rw [Int.natCast_mul, Int.toNat_of_nonneg (by omega)]
            simp only [roomBytes]
            omega
          have t2 : (decide (n2 < 0) || decide ((te.by_ : Int) * n2 > 2 ^ 48) || decide (n1 < 0) || decide (n1 > n2)) = false := by
            simp only [Bool.or_eq_false_iff, decide_eq_false_iff_not]
            omega
          refine ⟨.cells ((Array.range (n2.toNat * te.sz)).map (te.zero.cells[· % te.zero.cells.size]!)) e, ?_, ?_⟩
          · by_cases hz : n2.toNat * te.sz = 0
            · simp only [execOp, hop, Instr.makeSlice, Sem.run_bind, run_underlying hu, Result.andThen_ok, ex, ey, asInt, asIntOf, Sem.run_pure, hinfo, w1, w2, hi3, t2, Bool.false_eq_true, if_false, askRoom, if_neg hroom, run_sizeOf' (htt _ _ hte), if_true, newRow, newObj, Sem.run, den, hsz, Nat.zero_mul, hz]
              simp [show Array.range 0 = #[] from rfl]
            · simp only [execOp, hop, Instr.makeSlice, Sem.run_bind, run_underlying hu, Result.andThen_ok, ex, ey, asInt, asIntOf, Sem.run_pure, hinfo, w1, w2, hi3, t2, Bool.false_eq_true, if_false, askRoom, if_neg hroom, run_sizeOf' (htt _ _ hte), if_neg hz, run_zeroValue' (htt _ _ hte), newRow, newObj, Sem.run, den, hsz, Nat.zero_mul]
              rfl
          · refine ⟨_, by rw [← hsz]; exact heap_alloc_new, by simp, fun j hj => ⟨by simp [c5], fun s hs => ?_⟩⟩
            have h1 : j * te.sz + s < n2.toNat * te.sz := by
              have := Nat.mul_le_mul_right te.sz (show j + 1 ≤ n2.toNat by omega)
              rw [Nat.succ_mul] at this
              omega
            rw [Nat.zero_add, denL_map_v]
            simp only [Array.getElem?_map, Array.getElem?_range, h1, if_true, Option.map_some, c5]
            rw [show (j * te.sz + s) % te.sz = s by rw [Nat.mul_comm, Nat.mul_add_mod, Nat.mod_eq_of_lt hs]]
            have h2 : s < te.zero.cells.size := by omega
            simp [getElem!_pos, h2]
        · cases h
      · cases h
    · cases h
  · cases h

end Go.SX
