/-
  Part 2: loads, stores, and the operations that only compute, as functions on states; what they tell is what the program's operations do. Holds for every program.
-/
import Derived.Test.YtnmjdelnllchdaaSx1
import Derived.IntWalk
namespace Go.SX
set_option linter.unusedVariables false
set_option linter.unusedSimpArgs false
set_option linter.unusedSectionVars false
open Go

/-! ### Cells -/
theorem cell_of {w : World} {b : Nat} {c : Array Value} {t : TypeId} {fz : Nat × Nat} (h : w.heap[b]? = some (.cells c t fz)) (off : Nat) : w.cell? ⟨b, off, none⟩ = c[off]? := by
  simp [World.cell?, h]

theorem add_none (b o n : Nat) : Addr.add ⟨b, o, none⟩ n = ⟨b, o + n, none⟩ := Addr.add_lit b o n

theorem run_load_cell {P : Program} {w : World} {a : Addr} {x : Value} (h : w.cell? a = some x) : (load a).run P w = .ok x w := by
  simp [load, Sem.run, h]

theorem run_loadCellsFrom {P : Program} {w : World} {b o : Nat} : ∀ (vs : List Value) (i : Nat) (acc : Array Value), (∀ j, j < vs.length → w.cell? ⟨b, o + (i + j), none⟩ = vs[j]?) →
    (loadCellsFrom ⟨b, o, none⟩ i vs.length acc).run P w = .ok (acc ++ vs.toArray) w
  | [], i, acc, _ => by simp [loadCellsFrom]
  | x :: vs, i, acc, h => by
    have h0 := h 0 (by simp)
    simp only [Nat.add_zero, List.getElem?_cons_zero] at h0
    simp only [List.length_cons, loadCellsFrom, Sem.run_bind, add_none, run_load_cell h0, Result.andThen_ok]
    rw [run_loadCellsFrom vs (i + 1) (acc.push x) (fun j hj => by
      have := h (j + 1) (by simp; omega)
      simp only [List.getElem?_cons_succ] at this
      rw [← this]; congr 2; omega)]
    simp

theorem run_loadCells {P : Program} {w : World} {b o : Nat} (vs : List Value) (h : ∀ j, j < vs.length → w.cell? ⟨b, o + j, none⟩ = vs[j]?) :
    (loadCells ⟨b, o, none⟩ vs.length).run P w = .ok vs.toArray w := by
  have := run_loadCellsFrom (P := P) (w := w) (b := b) (o := o) vs 0 #[] (by simpa using h)
  simpa [loadCells] using this

/-- The value of some cells as a variable of a type. -/
def shapeUp (agg : Bool) (sz : Nat) (l : List SV) : Option SV :=
  if agg then (if l.length == sz then some (.ag l) else none) else match l with
    | [x] => some x
    | _ => none

theorem run_loadVar {P : Program} {w : World} {t : TypeId} {ti : TI} {b o : Nat} {l : List SV} {x : SV} (ht : ti.ok P t) (hs : shapeUp ti.d.isAgg ti.sz l = some x)
    (h : ∀ j, j < l.length → w.cell? ⟨b, o + j, none⟩ = (denL l)[j]?) : (loadVar t ⟨b, o, none⟩).run P w = .ok (den x) w := by
  simp only [loadVar, Sem.run_bind, run_isAgg ht, Result.andThen_ok]
  unfold shapeUp at hs
  split at hs
  · rename_i hagg
    split at hs
    · rename_i hl
      cases hs
      have hl' : l.length = ti.sz := by simpa using hl
      simp only [hagg, if_true, Sem.run_bind, run_sizeOf' ht, Result.andThen_ok]
      have := run_loadCells (P := P) (w := w) (b := b) (o := o) (denL l) (by simpa [denL_length] using h)
      rw [denL_length, hl'] at this
      simp [this, den]
    · cases hs
  · rename_i hagg
    have hagg' : ti.d.isAgg = false := by simpa using hagg
    simp only [hagg', Bool.false_eq_true, if_false]
    split at hs
    · rename_i y
      cases hs
      have h0 := h 0 (by simp)
      simp only [Nat.add_zero, denL, List.getElem?_cons_zero] at h0
      exact run_load_cell h0
    · cases hs

/-! ### Stores -/
def NotAgg : Value → Prop
  | .agg _ => False
  | .tuple _ => False
  | _ => True

def putAll : Array Value → Nat → List Value → Array Value
  | c, _, [] => c
  | c, o, v :: r => putAll (c.setIfInBounds o v) (o + 1) r

theorem putAll_size : ∀ (vs : List Value) (c : Array Value) (o : Nat), (putAll c o vs).size = c.size
  | [], _, _ => rfl
  | v :: r, c, o => by simp [putAll, putAll_size r]

theorem putAll_get : ∀ (vs : List Value) (c : Array Value) (o j : Nat), o + vs.length ≤ c.size → (putAll c o vs)[j]? = if o ≤ j ∧ j < o + vs.length then vs[j - o]? else c[j]?
  | [], c, o, j, _ => by
    have : ¬ (o ≤ j ∧ j < o + ([] : List Value).length) := by simp only [List.length_nil]; omega
    rw [if_neg this]; rfl
  | v :: r, c, o, j, h => by
    simp only [List.length_cons] at h
    rw [putAll, putAll_get r _ _ _ (by simp; omega)]
    by_cases h1 : o + 1 ≤ j ∧ j < o + 1 + r.length
    · rw [if_pos h1, if_pos (by simp; omega)]
      have : j - o = (j - (o + 1)) + 1 := by omega
      rw [this, List.getElem?_cons_succ]
    · rw [if_neg h1]
      by_cases h2 : j = o
      · subst h2
        rw [if_pos (by simp)]
        simp [show j < c.size by omega]
      · rw [if_neg (by simp; omega), Array.getElem?_setIfInBounds_ne (by omega)]

def putBlk (w : World) (b : Nat) (o : Obj) : World := { w with heap := w.heap.setIfInBounds b o }

theorem putBlk_same {w : World} {b : Nat} {o : Obj} (h : b < w.heap.size) : (putBlk w b o).heap[b]? = some o := by
  simp [putBlk, h]
theorem putBlk_ne {w : World} {b k : Nat} {o : Obj} (h : b ≠ k) : (putBlk w b o).heap[k]? = w.heap[k]? := by
  simp [putBlk, Array.getElem?_setIfInBounds_ne h]
theorem putBlk_size {w : World} {b : Nat} {o : Obj} : (putBlk w b o).heap.size = w.heap.size := by simp [putBlk]
theorem putBlk_put {w : World} {b : Nat} {o o' : Obj} : putBlk (putBlk w b o) b o' = putBlk w b o' := by
  simp only [putBlk]
  congr 1
  apply Array.ext_getElem?
  intro i
  by_cases h : b = i
  · subst h; simp [Array.getElem?_setIfInBounds]
  · simp [Array.getElem?_setIfInBounds_ne h]
theorem putBlk_self {w : World} {b : Nat} {o : Obj} (h : w.heap[b]? = some o) : putBlk w b o = w := by
  have : w.heap.setIfInBounds b o = w.heap := by
    apply Array.ext_getElem?
    intro i
    by_cases h' : b = i
    · subst h'; rw [Array.getElem?_setIfInBounds_self, h]; simp [lt_of_heap h]
    · simp [Array.getElem?_setIfInBounds_ne h']
  simp [putBlk, this]

theorem setCell_putBlk {w : World} {b o : Nat} {c : Array Value} {t : TypeId} {fz : Nat × Nat} {v : Value} (h : w.heap[b]? = some (.cells c t fz)) :
    w.setCell ⟨b, o, none⟩ v = putBlk w b (.cells (c.setIfInBounds o v) t fz) := by
  simp only [World.setCell, putBlk, Option.isSome_none, Bool.false_eq_true, if_false]
  congr 1
  apply Array.ext_getElem?
  intro i
  by_cases h' : b = i
  · subst h'
    rw [Array.getElem?_modify, if_pos rfl, h, Array.getElem?_setIfInBounds_self]
    simp [lt_of_heap h]
  · rw [Array.getElem?_modify, if_neg h', Array.getElem?_setIfInBounds_ne h']

theorem run_store_cell {P : Program} {w : World} {b o : Nat} {c : Array Value} {t : TypeId} {v : Value} (h : w.heap[b]? = some (.cells c t (0, 0))) (ho : o < c.size) (hv : NotAgg v) :
    (store ⟨b, o, none⟩ v).run P w = .ok () (putBlk w b (.cells (c.setIfInBounds o v) t (0, 0))) := by
  have hc : w.cell? ⟨b, o, none⟩ = some c[o] := by rw [cell_of h]; simp [ho]
  have hf : w.frozen? ⟨b, o, none⟩ = false := by simp [World.frozen?, h]
  cases v <;> first | exact hv.elim | (simp [store, Sem.run, hc, hf, setCell_putBlk h])

theorem run_storeCells {P : Program} {b t : Nat} : ∀ (vs : List Value) (w : World) (c : Array Value) (o i : Nat), w.heap[b]? = some (.cells c t (0, 0)) → o + i + vs.length ≤ c.size → (∀ v ∈ vs, NotAgg v) →
    (storeCells ⟨b, o, none⟩ vs i).run P w = .ok () (putBlk w b (.cells (putAll c (o + i) vs) t (0, 0)))
  | [], w, c, o, i, h, _, _ => by simp [storeCells, putAll, putBlk_self h]
  | v :: r, w, c, o, i, h, hl, hn => by
    simp only [List.length_cons] at hl
    simp only [storeCells, Sem.run_bind, add_none]
    rw [run_store_cell h (by omega) (hn v (by simp)), Result.andThen_ok]
    rw [run_storeCells r _ (c.setIfInBounds (o + i) v) o (i + 1) (putBlk_same (lt_of_heap h)) (by simp; omega) (fun u hu => hn u (by simp [hu]))]
    rw [putBlk_put]
    rfl

/-- The cells that a value fills. -/
def SV.cells : SV → List SV
  | .ag l => l
  | .v x => match x with
    | .agg cs => cs.toList.map .v
    | y => [.v y]
  | x => [x]

theorem denL_map_v (l : List Value) : denL (l.map .v) = l := by
  induction l with
  | nil => rfl
  | cons x l ih => simp [denL, den, ih]

theorem SV.cells_den (x : SV) : (den x).cells = (denL x.cells).toArray := by
  cases x with
  | ag l => simp [den, Value.cells, SV.cells]
  | v y => cases y <;> simp [den, denL, denL_map_v, Value.cells, SV.cells]
  | _ => simp [den, denL, Value.cells, SV.cells]

def spliceL (l : List SV) (o : Nat) (vs : List SV) : List SV := l.take o ++ (vs ++ l.drop (o + vs.length))

theorem spliceL_length {l vs : List SV} {o : Nat} (h : o + vs.length ≤ l.length) : (spliceL l o vs).length = l.length := by
  simp [spliceL]; omega

theorem splice_get {l vs : List SV} {o j : Nat} (h : o + vs.length ≤ l.length) : (spliceL l o vs)[j]? = if o ≤ j ∧ j < o + vs.length then vs[j - o]? else l[j]? := by
  unfold spliceL
  by_cases h1 : j < o
  · rw [List.getElem?_append_left (by simp; omega), List.getElem?_take_of_lt h1, if_neg (by omega)]
  · rw [List.getElem?_append_right (by simp; omega)]
    have : (l.take o).length = o := by simp; omega
    rw [this]
    by_cases h2 : j < o + vs.length
    · rw [if_pos (by omega), List.getElem?_append_left (by omega)]
    · rw [if_neg (by omega), List.getElem?_append_right (by omega), List.getElem?_drop]
      congr 1; omega

theorem putAll_splice {l vs : List SV} {o : Nat} (h : o + vs.length ≤ l.length) : putAll (denL l).toArray o (denL vs) = (denL (spliceL l o vs)).toArray := by
  apply Array.ext_getElem?
  intro j
  rw [putAll_get _ _ _ _ (by simp [denL_length]; exact h)]
  simp only [List.getElem?_toArray, denL_get?, denL_length, splice_get h]
  split <;> rfl

theorem run_storeVar {P : Program} {w : World} {t u : TypeId} {ti : TI} {b o : Nat} {c : Array Value} {x : SV} (ht : ti.ok P t) (h : w.heap[b]? = some (.cells c u (0, 0))) (hl : x.cells.length = ti.sz)
    (ho : o + ti.sz ≤ c.size) (hn : ∀ y ∈ x.cells, NotAgg (den y)) : (storeVar t ⟨b, o, none⟩ (den x)).run P w = .ok () (putBlk w b (.cells (putAll c o (denL x.cells)) u (0, 0))) := by
  simp only [storeVar, Sem.run_bind, run_sizeOf' ht, Result.andThen_ok, SV.cells_den]
  rw [if_neg (by simp [denL_length, hl])]
  exact run_storeCells _ _ _ _ 0 h (by simp [denL_length, hl]; exact ho) (by
    intro v hv
    rw [denL_map] at hv
    obtain ⟨y, hy, rfl⟩ := List.mem_map.1 hv
    exact hn y hy)

/-! ### Integers -/
def inK (x : Int) : Prop := -9223372036854775808 ≤ x ∧ x ≤ 9223372036854775807
theorem wrap_inK {x : Int} (h : inK x) : IntKind.i64.wrap x = x := by
  unfold inK at h
  exact IntWalk.i64_in x (by omega)

def bitv (op : BinOp) (k : IntKind) (x y : Int) : Int :=
  match op with
  | .and => k.wrap (BitVec.ofInt k.bits x &&& BitVec.ofInt k.bits y).toNat
  | .or => k.wrap (BitVec.ofInt k.bits x ||| BitVec.ofInt k.bits y).toNat
  | .xor => k.wrap (BitVec.ofInt k.bits x ^^^ BitVec.ofInt k.bits y).toNat
  | _ => k.wrap (BitVec.ofInt k.bits x &&& ~~~(BitVec.ofInt k.bits y)).toNat

def arith (nw : Bool) (k : IntKind) (x : Int) : List Prop × SV :=
  match nw, k with
  | true, .i64 => ([inK x], .v (.int .i64 x))
  | _, k => ([], .v (.int k (k.wrap x)))

theorem arith_sound {nw : Bool} {k : IntKind} {x : Int} (h : ∀ p ∈ (arith nw k x).1, p) : den (arith nw k x).2 = .int k (k.wrap x) := by
  unfold arith at *
  split <;> rename_i hk
  · simp only [List.mem_singleton, forall_eq] at h; simp [den, wrap_inK h]
  · rfl

def evInt (nw : Bool) (op : BinOp) (k : IntKind) (a : Int) (k' : IntKind) (b : Int) : Option (List Prop × SV) :=
  match op with
  | .shl => some ([0 ≤ b], .v (.int k (k.wrap (a * 2 ^ min b.toNat k.bits))))
  | .shr => some ([0 ≤ b], .v (.int k (a.fdiv (2 ^ min b.toNat k.bits))))
  | op => if k = k' then (match op with
    | .add => some (arith nw k (a + b))
    | .sub => some (arith nw k (a - b))
    | .mul => some (arith nw k (a * b))
    | .quo => some ((b ≠ 0) :: (arith nw k (a.tdiv b)).1, (arith nw k (a.tdiv b)).2)
    | .rem => some ([b ≠ 0], .v (.int k (a.tmod b)))
    | .and => some ([], .v (.int k (bitv .and k a b)))
    | .or => some ([], .v (.int k (bitv .or k a b)))
    | .xor => some ([], .v (.int k (bitv .xor k a b)))
    | .andNot => some ([], .v (.int k (bitv .andNot k a b)))
    | .eql => some ([], .v (.bool (a == b)))
    | .neq => some ([], .v (.bool (a != b)))
    | .lss => some ([], .v (.bool (decide (a < b))))
    | .leq => some ([], .v (.bool (decide (a ≤ b))))
    | .gtr => some ([], .v (.bool (decide (b < a))))
    | .geq => some ([], .v (.bool (decide (b ≤ a))))
    | _ => none) else none

theorem evInt_sound {P : Program} {w : World} {nw : Bool} {op : BinOp} {t : TypeId} {k k' : IntKind} {a b : Int} {obs : List Prop} {x : SV} (h : evInt nw op k a k' b = some (obs, x)) (ho : ∀ p ∈ obs, p) :
    (binOp op t (.int k a) (.int k' b)).run P w = .ok (den x) w := by
  unfold evInt at h
  split at h
  · cases h
    have hb : 0 ≤ b := ho _ (by simp)
    simp [binOp, Op.shift, den, Int.not_lt.2 hb]
  · cases h
    have hb : 0 ≤ b := ho _ (by simp)
    simp [binOp, Op.shift, den, Int.not_lt.2 hb]
  · rename_i hnl hnr
    split at h
    · rename_i hk
      subst hk
      cases op <;> simp only [reduceCtorEq] at h hnl hnr <;> first
        | (cases h; done)
        | (cases h; simp [binOp, Op.intBits, bitv, den]; done)
        | (cases h; simp [binOp, Op.intCmp, den]; done)
        | (simp only [Option.some.injEq] at h
           rw [Prod.ext_iff] at h
           obtain ⟨h1, h2⟩ := h
           simp only [] at h1 h2
           subst h1; subst h2
           simp [binOp, Op.intArith, arith_sound ho]; done)
        | (cases h
           have hb : b ≠ 0 := ho _ (by simp)
           simp [binOp, Op.intDiv, hb, den]; done)
        | (simp only [Option.some.injEq] at h
           rw [Prod.ext_iff] at h
           obtain ⟨h1, h2⟩ := h
           simp only [] at h1 h2
           subst h1; subst h2
           have hb : b ≠ 0 := ho _ (by simp)
           rw [arith_sound (fun p hp => ho p (List.mem_cons_of_mem _ hp))]
           simp [binOp, Op.intDiv, hb]; done)
    · cases h

end Go.SX
