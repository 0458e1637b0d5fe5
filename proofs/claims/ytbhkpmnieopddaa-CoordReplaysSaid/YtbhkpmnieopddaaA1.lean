/- A1: texts of this proof, joined. -/
import Derived.WalkKit
import Derived.OrdersHeld
import Derived.Below
import Derived.KernelRfl
import Derived.IntWalk
import Derived.Laws.BytesString
import Derived.LaidEql
set_option linter.unusedVariables false
set_option linter.unusedSimpArgs false
set_option linter.unusedSectionVars false
namespace Go.SX
open Go
inductive SV where
  | v (x : Value)
  | ptr (i b off : Nat)
  | el (i b o0 idx sz sub : Nat)
  | sl (i b o0 base len cap sz : Nat)
  | mp (i b : Nat)
  | ag (l : List SV)
  | tu (l : List SV)
  | fn (f : Fn) (first cap : List SV)
mutual
def den : SV → Value
  | .v x => x
  | .ptr _ b off => .pointer (some ⟨b, off, none⟩)
  | .el _ b o0 idx sz sub => .pointer (some ⟨b, o0 + (idx * sz + sub), none⟩)
  | .sl _ b o0 base len cap sz => .slice (some ⟨b, o0 + base * sz, none⟩) len cap
  | .mp _ b => .map (some b)
  | .ag l => .agg (denL l).toArray
  | .tu l => .tuple (denL l).toArray
  | .fn f a c => .func f (denL a).toArray (denL c).toArray
def denL : List SV → List Value
  | [] => []
  | x :: l => den x :: denL l
end
theorem denL_map : ∀ l : List SV, denL l = l.map den
  | [] => rfl
  | x :: l => by simp [denL, denL_map l]
theorem denL_length (l : List SV) : (denL l).length = l.length := by simp [denL_map]
theorem denL_append (l m : List SV) : denL (l ++ m) = denL l ++ denL m := by simp [denL_map]
theorem denL_get? (l : List SV) (i : Nat) : (denL l)[i]? = (l[i]?).map den := by simp [denL_map]
theorem denL_drop (l : List SV) (i : Nat) : denL (l.drop i) = (denL l).drop i := by simp [denL_map, List.map_drop]
theorem denL_take (l : List SV) (i : Nat) : denL (l.take i) = (denL l).take i := by simp [denL_map, List.map_take]
def ArrRep (c : Array Value) (o0 n : Nat) (row : Nat → List SV) (sz : Nat) : Prop :=
  o0 + n * sz ≤ c.size ∧ ∀ j, j < n → (row j).length = sz ∧ ∀ s, s < sz → c[o0 + (j * sz + s)]? = (denL (row j))[s]?
inductive SO where
  | cells (l : List SV) (t : TypeId)
  | arr (o0 n : Nat) (row : Nat → List SV) (sz : Nat) (t : TypeId) (fz : Nat × Nat)
  | imap (m : Int → Option SV)
  | iset (p : Int → Bool)
  | obj (o : Obj)
  | any
def mkEntry (e : Int × SV × Nat) : MapEntry := { key := .int .i64 e.1, val := den e.2.1, born := e.2.2 }
def IMap (es : Array MapEntry) (clk : Nat) (m : Int → Option SV) : Prop :=
  ∃ l : List (Int × SV × Nat), es = (l.map mkEntry).toArray ∧ (l.map (·.1)).Nodup ∧ (l.map (·.2.2)).Nodup ∧ (∀ e ∈ l, e.2.2 < clk) ∧
    ∀ k x, m k = some x ↔ ∃ n, (k, x, n) ∈ l
def setFn (p : Int → Bool) : Int → Option SV := fun k => if p k then some (.v (.bool true)) else none
def SO.rep (w : World) (b : Nat) : SO → Prop
  | .cells l t => w.heap[b]? = some (.cells (denL l).toArray t (0, 0))
  | .arr o0 n row sz t fz => ∃ c, w.heap[b]? = some (.cells c t fz) ∧ ArrRep c o0 n row sz
  | .imap m => ∃ es clk, w.heap[b]? = some (.map es clk) ∧ IMap es clk m
  | .iset p => ∃ es clk, w.heap[b]? = some (.map es clk) ∧ IMap es clk (setFn p)
  | .obj o => w.heap[b]? = some o
  | .any => b < w.heap.size
theorem lt_of_heap {w : World} {b : Nat} {o : Obj} (h : w.heap[b]? = some o) : b < w.heap.size := by
  rcases Nat.lt_or_ge b w.heap.size with h' | h'
  · exact h'
  · simp [Array.getElem?_eq_none h'] at h
theorem SO.rep_lt {w : World} {b : Nat} {o : SO} (h : o.rep w b) : b < w.heap.size := by
  cases o with
  | cells l t => exact lt_of_heap h
  | arr o0 n row sz t fz => obtain ⟨c, h, _⟩ := h; exact lt_of_heap h
  | imap m => obtain ⟨es, clk, h, _⟩ := h; exact lt_of_heap h
  | iset p => obtain ⟨es, clk, h, _⟩ := h; exact lt_of_heap h
  | obj o => exact lt_of_heap h
  | any => exact h
theorem SO.rep_same {w w' : World} {b : Nat} {o : SO} (h : o.rep w b) (he : w'.heap[b]? = w.heap[b]?) : o.rep w' b := by
  cases o with
  | cells l t => exact he.trans h
  | arr o0 n row sz t fz => obtain ⟨c, h, h2⟩ := h; exact ⟨c, he.trans h, h2⟩
  | imap m => obtain ⟨es, clk, h, h2⟩ := h; exact ⟨es, clk, he.trans h, h2⟩
  | iset p => obtain ⟨es, clk, h, h2⟩ := h; exact ⟨es, clk, he.trans h, h2⟩
  | obj o => exact he.trans h
  | any =>
    have hlt : b < w.heap.size := h
    show b < w'.heap.size
    rcases Nat.lt_or_ge b w'.heap.size with h' | h'
    · exact h'
    · rw [Array.getElem?_eq_none h'] at he
      rw [Array.getElem?_eq_getElem hlt] at he
      cases he
inductive TD where
  | int (k : IntKind) | bool | str | ptr (e : Nat) | slice (e : Nat) | arr (n e : Nat) | struct (fs : List (Nat × Nat)) | map (k e : Nat) | func | iface | other
def toTD : TypeDesc → TD
  | .int k => .int k
  | .bool => .bool
  | .string => .str
  | .pointer e => .ptr e
  | .slice e => .slice e
  | .array n e => .arr n e
  | .struct fs => .struct (fs.toList.map fun f => (f.offset, f.type))
  | .map k e => .map k e
  | .func .. => .func
  | .interface .. => .iface
  | _ => .other
structure TI where
  d : TD
  sz : Nat
  by_ : Nat
  zero : Value
def TI.ok (P : Program) (t : TypeId) (i : TI) : Prop :=
  (P.underlying t).map toTD = some i.d ∧ (P.info? t).map (fun x => (x.size, x.bytes, x.zero)) = some (i.sz, i.by_, some i.zero)
def lookT : List (Nat × TI) → Nat → Option TI
  | [], _ => none
  | (u, i) :: r, t => if u == t then some i else lookT r t
def TTok (P : Program) (tt : List (Nat × TI)) : Prop := ∀ t i, lookT tt t = some i → TI.ok P t i
theorem TTok.nil {P : Program} : TTok P [] := fun _ _ h => by simp [lookT] at h
theorem TTok.cons {P : Program} {t : Nat} {i : TI} {r : List (Nat × TI)} (h : i.ok P t) (hr : TTok P r) : TTok P ((t, i) :: r) := by
  intro u j hj
  simp only [lookT] at hj
  split at hj
  · rename_i e
    have e' : t = u := by simpa using e
    cases hj
    exact e' ▸ h
  · exact hr u j hj
section
variable {P : Program} {t : TypeId} {i : TI}
theorem TI.ok.under (h : i.ok P t) : ∃ d, P.underlying t = some d ∧ toTD d = i.d := by
  have h1 := h.1
  cases hu : P.underlying t with
  | none => rw [hu] at h1; cases h1
  | some d => rw [hu] at h1; exact ⟨d, rfl, by simpa using h1⟩
theorem TI.ok.info (h : i.ok P t) : ∃ x, P.info? t = some x ∧ x.size = i.sz ∧ x.bytes = i.by_ ∧ x.zero = some i.zero := by
  have h1 := h.2
  cases hu : P.info? t with
  | none => rw [hu] at h1; cases h1
  | some x =>
    rw [hu] at h1
    simp only [Option.map_some, Option.some.injEq, Prod.mk.injEq] at h1
    exact ⟨x, rfl, h1.1, h1.2.1, h1.2.2⟩
theorem TI.ok.int (h : i.ok P t) {k : IntKind} (hd : i.d = .int k) : P.underlying t = some (.int k) := by
  obtain ⟨d, h1, h2⟩ := h.under
  rw [hd] at h2
  cases d <;> simp [toTD] at h2
  rw [h1, h2]
theorem TI.ok.slice (h : i.ok P t) {e : Nat} (hd : i.d = .slice e) : P.underlying t = some (.slice e) := by
  obtain ⟨d, h1, h2⟩ := h.under
  rw [hd] at h2
  cases d <;> simp [toTD] at h2
  rw [h1, h2]
theorem TI.ok.arr (h : i.ok P t) {n e : Nat} (hd : i.d = .arr n e) : P.underlying t = some (.array n e) := by
  obtain ⟨d, h1, h2⟩ := h.under
  rw [hd] at h2
  cases d <;> simp [toTD] at h2
  rw [h1, h2.1, h2.2]
theorem TI.ok.map (h : i.ok P t) {k e : Nat} (hd : i.d = .map k e) : P.underlying t = some (.map k e) := by
  obtain ⟨d, h1, h2⟩ := h.under
  rw [hd] at h2
  cases d <;> simp [toTD] at h2
  rw [h1, h2.1, h2.2]
theorem TI.ok.str (h : i.ok P t) (hd : i.d = .str) : P.underlying t = some .string := by
  obtain ⟨d, h1, h2⟩ := h.under
  rw [hd] at h2
  cases d <;> simp [toTD] at h2
  exact h1
theorem TI.ok.ptr (h : i.ok P t) {e : Nat} (hd : i.d = .ptr e) : P.underlying t = some (.pointer e) := by
  obtain ⟨d, h1, h2⟩ := h.under
  rw [hd] at h2
  cases d <;> simp [toTD] at h2
  rw [h1, h2]
theorem TI.ok.struct (h : i.ok P t) {fs : List (Nat × Nat)} (hd : i.d = .struct fs) :
    ∃ a : Array Field, P.underlying t = some (.struct a) ∧ a.toList.map (fun f => (f.offset, f.type)) = fs := by
  obtain ⟨d, h1, h2⟩ := h.under
  rw [hd] at h2
  cases d <;> simp [toTD] at h2
  rename_i a
  exact ⟨a, h1, by simpa using h2⟩
end
def TD.isAgg : TD → Bool
  | .struct _ | .arr .. => true
  | _ => false
theorem run_isAgg {P : Program} {t : TypeId} {i : TI} (h : i.ok P t) (w : World) : (isAgg t).run P w = .ok i.d.isAgg w := by
  obtain ⟨d, h1, h2⟩ := h.under
  simp only [isAgg, Sem.run_bind, run_underlying h1, Result.andThen_ok]
  cases d <;> simp [toTD] at h2 <;> rw [← h2] <;> rfl
theorem run_sizeOf' {P : Program} {t : TypeId} {i : TI} (h : i.ok P t) (w : World) : (sizeOf t).run P w = .ok i.sz w := by
  obtain ⟨x, h1, h2, _⟩ := h.info
  simp [sizeOf, typeInfo, h1, h2]
theorem run_zeroValue' {P : Program} {t : TypeId} {i : TI} (h : i.ok P t) (w : World) : (zeroValue t).run P w = .ok i.zero w := by
  obtain ⟨x, h1, _, _, h2⟩ := h.info
  simp [zeroValue, typeInfo, h1, h2]
structure Fr where
  w0 : World
  B : Nat
  M : List Nat
structure Keeps (F : Fr) (w : World) : Prop where
  hB : F.B ≤ F.w0.heap.size
  os : w.os = F.w0.os
  tape : w.tape = F.w0.tape
  output : w.output = F.w0.output
  size : F.w0.heap.size ≤ w.heap.size
  block : ∀ k, k < F.B → k ∉ F.M → w.heap[k]? = F.w0.heap[k]?
structure Ks where
  tj : Nat
  want : Bool
  ci : Nat
  pi : Nat
  B : Bool
structure St where
  env : List (Nat × Nat × SV)
  hp : List (Nat × Bool × SO)
  s : Nat
  k : Nat
  nt : Nat
  cs : List Bool
  ks : List Ks
  gd : List (Nat × Bool)
def look : List (Nat × Nat × SV) → Nat → Option (Nat × SV)
  | [], _ => none
  | (u, c, x) :: r, t => if u == t then some (c, x) else look r t
def cnd (cs : List Bool) : Nat → Bool
  | 0 => true
  | n + 1 => cs.getD n true
def EnvRep (st : St) (a : Act) : Prop :=
  a.tmps.size = st.nt ∧ a.defers = [] ∧
  (∀ t c x, look st.env t = some (c, x) → c ≤ st.cs.length ∧ a.tmps[t]? = some (if cnd st.cs c then den x else undef)) ∧
  ∀ r ∈ st.ks, (r.ci ≤ st.cs.length ∧ r.pi ≤ st.cs.length) ∧ a.tmps[r.tj]? = some (if cnd st.cs r.pi then .bool r.B else undef) ∧ cnd st.cs r.ci = (cnd st.cs r.pi && (r.B == r.want))
def HpRep (hp : List (Nat × Bool × SO)) (w : World) : Prop := ∀ (i b : Nat) (m : Bool) (o : SO), hp[i]? = some (b, m, o) → o.rep w b
structure Rep (F : Fr) (st : St) (a : Act) (w : World) : Prop where
  env : EnvRep st a
  hp : HpRep st.hp w
  mu : ∀ (i b : Nat) (o : SO), st.hp[i]? = some (b, true, o) → F.B ≤ b ∨ b ∈ F.M
  nd : ∀ (i j : Nat) (x y : Nat × Bool × SO), st.hp[i]? = some x → st.hp[j]? = some y → x.1 = y.1 → i = j
  sz : w.heap.size = st.s + st.k
  kp : Keeps F w
def opd (st : St) (c : Nat) : Operand → Option SV
  | .tmp t => match look st.env t with
    | some (ci, x) => if ci == 0 || ci == c then some x else none
    | none => none
  | .const v => some (.v v)
  | .func f => some (.fn (.func f) [] [])
  | .global _ => none
theorem opd_sound {st : St} {a : Act} {c : Nat} {x : Operand} {s : SV} (hr : EnvRep st a) (hc : cnd st.cs c = true) (h : opd st c x = some s) : a.eval x = den s := by
  cases x with
  | tmp t =>
    simp only [opd] at h
    cases hl : look st.env t with
    | none => simp [hl] at h
    | some p =>
      obtain ⟨ci, y⟩ := p
      simp only [hl] at h
      split at h
      · rename_i hci
        cases h
        have h2 := (hr.2.2.1 t ci _ hl).2
        have hcc : cnd st.cs ci = true := by
          simp only [Bool.or_eq_true, beq_iff_eq] at hci
          rcases hci with rfl | rfl
          · rfl
          · exact hc
        simp only [hcc, if_true] at h2
        simp [Act.eval, Array.getD_eq_getD_getElem?, h2]
      · cases h
  | const v => cases h; rfl
  | global g => cases h
  | func f => cases h; rfl
def opds (st : St) (c : Nat) : List Operand → Option (List SV)
  | [] => some []
  | x :: l => match opd st c x, opds st c l with
    | some s, some r => some (s :: r)
    | _, _ => none
theorem opds_sound {st : St} {a : Act} {c : Nat} (hr : EnvRep st a) (hc : cnd st.cs c = true) : ∀ (l : List Operand) (r : List SV), opds st c l = some r → l.map a.eval = denL r
  | [], r, h => by cases h; rfl
  | x :: l, r, h => by
    simp only [opds] at h
    split at h
    · rename_i s r' h1 h2
      cases h
      simp [denL, opd_sound hr hc h1, opds_sound hr hc l r' h2]
    · cases h
end Go.SX
namespace Go.SX
open Go
theorem cell_of {w : World} {b : Nat} {c : Array Value} {t : TypeId} {fz : Nat × Nat} (h : w.heap[b]? = some (.cells c t fz)) (off : Nat) : w.cell? ⟨b, off, none⟩ = c[off]? := by
  simp [World.cell?, h]
theorem add_none (b o n : Nat) : Addr.add ⟨b, o, none⟩ n = ⟨b, o + n, none⟩ := Addr.add_lit b o n
theorem run_load_cell {P : Program} {w : World} {a : Addr} {x : Value} (h : w.cell? a = some x) : (load a).run P w = .ok x w := by
  simp [load, Sem.run, h]
theorem run_loadCellsFrom {P : Program} {w : World} {b o : Nat} : ∀ (vs : List Value) (i : Nat) (acc : Array Value), (∀ j, j < vs.length → w.cell? ⟨b, o + (i + j), none⟩ = vs[j]?) →
    (loadCellsFrom ⟨b, o, none⟩ i vs.length acc).run P w = .ok (acc ++ vs.toArray) w
  | [], i, acc, _ => by simp [loadCellsFrom]
  | x :: vs, i, acc, h => by
    have h0 := h 0 (by simp)
    simp only [Nat.add_zero, List.getElem?_cons_zero] at h0
    simp only [List.length_cons, loadCellsFrom, Sem.run_bind, add_none, run_load_cell h0, Result.andThen_ok]
    rw [run_loadCellsFrom vs (i + 1) (acc.push x) (fun j hj => by
      have := h (j + 1) (by simp; omega)
      simp only [List.getElem?_cons_succ] at this
      rw [← this]; congr 2; omega)]
    simp
theorem run_loadCells {P : Program} {w : World} {b o : Nat} (vs : List Value) (h : ∀ j, j < vs.length → w.cell? ⟨b, o + j, none⟩ = vs[j]?) :
    (loadCells ⟨b, o, none⟩ vs.length).run P w = .ok vs.toArray w := by
  have := run_loadCellsFrom (P := P) (w := w) (b := b) (o := o) vs 0 #[] (by simpa using h)
  simpa [loadCells] using this
def shapeUp (agg : Bool) (sz : Nat) (l : List SV) : Option SV :=
  if agg then (if l.length == sz then some (.ag l) else none) else match l with
    | [x] => some x
    | _ => none
theorem run_loadVar {P : Program} {w : World} {t : TypeId} {ti : TI} {b o : Nat} {l : List SV} {x : SV} (ht : ti.ok P t) (hs : shapeUp ti.d.isAgg ti.sz l = some x)
    (h : ∀ j, j < l.length → w.cell? ⟨b, o + j, none⟩ = (denL l)[j]?) : (loadVar t ⟨b, o, none⟩).run P w = .ok (den x) w := by
  simp only [loadVar, Sem.run_bind, run_isAgg ht, Result.andThen_ok]
  unfold shapeUp at hs
  split at hs
  · rename_i hagg
    split at hs
    · rename_i hl
      cases hs
      have hl' : l.length = ti.sz := by simpa using hl
      simp only [hagg, if_true, Sem.run_bind, run_sizeOf' ht, Result.andThen_ok]
      have := run_loadCells (P := P) (w := w) (b := b) (o := o) (denL l) (by simpa [denL_length] using h)
      rw [denL_length, hl'] at this
      simp [this, den]
    · cases hs
  · rename_i hagg
    have hagg' : ti.d.isAgg = false := by simpa using hagg
    simp only [hagg', Bool.false_eq_true, if_false]
    split at hs
    · rename_i y
      cases hs
      have h0 := h 0 (by simp)
      simp only [Nat.add_zero, denL, List.getElem?_cons_zero] at h0
      exact run_load_cell h0
    · cases hs
def NotAgg : Value → Prop
  | .agg _ => False
  | .tuple _ => False
  | _ => True
def putAll : Array Value → Nat → List Value → Array Value
  | c, _, [] => c
  | c, o, v :: r => putAll (c.setIfInBounds o v) (o + 1) r
theorem putAll_size : ∀ (vs : List Value) (c : Array Value) (o : Nat), (putAll c o vs).size = c.size
  | [], _, _ => rfl
  | v :: r, c, o => by simp [putAll, putAll_size r]
theorem putAll_get : ∀ (vs : List Value) (c : Array Value) (o j : Nat), o + vs.length ≤ c.size → (putAll c o vs)[j]? = if o ≤ j ∧ j < o + vs.length then vs[j - o]? else c[j]?
  | [], c, o, j, _ => by
    have : ¬ (o ≤ j ∧ j < o + ([] : List Value).length) := by simp only [List.length_nil]; omega
    rw [if_neg this]; rfl
  | v :: r, c, o, j, h => by
    simp only [List.length_cons] at h
    rw [putAll, putAll_get r _ _ _ (by simp; omega)]
    by_cases h1 : o + 1 ≤ j ∧ j < o + 1 + r.length
    · rw [if_pos h1, if_pos (by simp; omega)]
      have : j - o = (j - (o + 1)) + 1 := by omega
      rw [this, List.getElem?_cons_succ]
    · rw [if_neg h1]
      by_cases h2 : j = o
      · subst h2
        rw [if_pos (by simp)]
        simp [show j < c.size by omega]
      · rw [if_neg (by simp; omega), Array.getElem?_setIfInBounds_ne (by omega)]
def putBlk (w : World) (b : Nat) (o : Obj) : World := { w with heap := w.heap.setIfInBounds b o }
theorem putBlk_same {w : World} {b : Nat} {o : Obj} (h : b < w.heap.size) : (putBlk w b o).heap[b]? = some o := by
  simp [putBlk, h]
theorem putBlk_ne {w : World} {b k : Nat} {o : Obj} (h : b ≠ k) : (putBlk w b o).heap[k]? = w.heap[k]? := by
  simp [putBlk, Array.getElem?_setIfInBounds_ne h]
theorem putBlk_size {w : World} {b : Nat} {o : Obj} : (putBlk w b o).heap.size = w.heap.size := by simp [putBlk]
theorem putBlk_put {w : World} {b : Nat} {o o' : Obj} : putBlk (putBlk w b o) b o' = putBlk w b o' := by
  simp only [putBlk]
  congr 1
  apply Array.ext_getElem?
  intro i
  by_cases h : b = i
  · subst h; simp [Array.getElem?_setIfInBounds]
  · simp [Array.getElem?_setIfInBounds_ne h]
theorem putBlk_self {w : World} {b : Nat} {o : Obj} (h : w.heap[b]? = some o) : putBlk w b o = w := by
  have : w.heap.setIfInBounds b o = w.heap := by
    apply Array.ext_getElem?
    intro i
    by_cases h' : b = i
    · subst h'; rw [Array.getElem?_setIfInBounds_self, h]; simp [lt_of_heap h]
    · simp [Array.getElem?_setIfInBounds_ne h']
  simp [putBlk, this]
theorem setCell_putBlk {w : World} {b o : Nat} {c : Array Value} {t : TypeId} {fz : Nat × Nat} {v : Value} (h : w.heap[b]? = some (.cells c t fz)) :
    w.setCell ⟨b, o, none⟩ v = putBlk w b (.cells (c.setIfInBounds o v) t fz) := by
  simp only [World.setCell, putBlk, Option.isSome_none, Bool.false_eq_true, if_false]
  congr 1
  apply Array.ext_getElem?
  intro i
  by_cases h' : b = i
  · subst h'
    rw [Array.getElem?_modify, if_pos rfl, h, Array.getElem?_setIfInBounds_self]
    simp [lt_of_heap h]
  · rw [Array.getElem?_modify, if_neg h', Array.getElem?_setIfInBounds_ne h']
theorem run_store_cell {P : Program} {w : World} {b o : Nat} {c : Array Value} {t : TypeId} {v : Value} (h : w.heap[b]? = some (.cells c t (0, 0))) (ho : o < c.size) (hv : NotAgg v) :
    (store ⟨b, o, none⟩ v).run P w = .ok () (putBlk w b (.cells (c.setIfInBounds o v) t (0, 0))) := by
  have hc : w.cell? ⟨b, o, none⟩ = some c[o] := by rw [cell_of h]; simp [ho]
  have hf : w.frozen? ⟨b, o, none⟩ = false := by simp [World.frozen?, h]
  cases v <;> first | exact hv.elim | (simp [store, Sem.run, hc, hf, setCell_putBlk h])
theorem run_storeCells {P : Program} {b t : Nat} : ∀ (vs : List Value) (w : World) (c : Array Value) (o i : Nat), w.heap[b]? = some (.cells c t (0, 0)) → o + i + vs.length ≤ c.size → (∀ v ∈ vs, NotAgg v) →
    (storeCells ⟨b, o, none⟩ vs i).run P w = .ok () (putBlk w b (.cells (putAll c (o + i) vs) t (0, 0)))
  | [], w, c, o, i, h, _, _ => by simp [storeCells, putAll, putBlk_self h]
  | v :: r, w, c, o, i, h, hl, hn => by
    simp only [List.length_cons] at hl
    simp only [storeCells, Sem.run_bind, add_none]
    rw [run_store_cell h (by omega) (hn v (by simp)), Result.andThen_ok]
    rw [run_storeCells r _ (c.setIfInBounds (o + i) v) o (i + 1) (putBlk_same (lt_of_heap h)) (by simp; omega) (fun u hu => hn u (by simp [hu]))]
    rw [putBlk_put]
    rfl
def SV.cells : SV → List SV
  | .ag l => l
  | .v x => match x with
    | .agg cs => cs.toList.map .v
    | y => [.v y]
  | x => [x]
theorem denL_map_v (l : List Value) : denL (l.map .v) = l := by
  induction l with
  | nil => rfl
  | cons x l ih => simp [denL, den, ih]
theorem SV.cells_den (x : SV) : (den x).cells = (denL x.cells).toArray := by
  cases x with
  | ag l => simp [den, Value.cells, SV.cells]
  | v y => cases y <;> simp [den, denL, denL_map_v, Value.cells, SV.cells]
  | _ => simp [den, denL, Value.cells, SV.cells]
def spliceL (l : List SV) (o : Nat) (vs : List SV) : List SV := l.take o ++ (vs ++ l.drop (o + vs.length))
theorem spliceL_length {l vs : List SV} {o : Nat} (h : o + vs.length ≤ l.length) : (spliceL l o vs).length = l.length := by
  simp [spliceL]; omega
theorem splice_get {l vs : List SV} {o j : Nat} (h : o + vs.length ≤ l.length) : (spliceL l o vs)[j]? = if o ≤ j ∧ j < o + vs.length then vs[j - o]? else l[j]? := by
  unfold spliceL
  by_cases h1 : j < o
  · rw [List.getElem?_append_left (by simp; omega), List.getElem?_take_of_lt h1, if_neg (by omega)]
  · rw [List.getElem?_append_right (by simp; omega)]
    have : (l.take o).length = o := by simp; omega
    rw [this]
    by_cases h2 : j < o + vs.length
    · rw [if_pos (by omega), List.getElem?_append_left (by omega)]
    · rw [if_neg (by omega), List.getElem?_append_right (by omega), List.getElem?_drop]
      congr 1; omega
theorem putAll_splice {l vs : List SV} {o : Nat} (h : o + vs.length ≤ l.length) : putAll (denL l).toArray o (denL vs) = (denL (spliceL l o vs)).toArray := by
  apply Array.ext_getElem?
  intro j
  rw [putAll_get _ _ _ _ (by simp [denL_length]; exact h)]
  simp only [List.getElem?_toArray, denL_get?, denL_length, splice_get h]
  split <;> rfl
theorem run_storeVar {P : Program} {w : World} {t u : TypeId} {ti : TI} {b o : Nat} {c : Array Value} {x : SV} (ht : ti.ok P t) (h : w.heap[b]? = some (.cells c u (0, 0))) (hl : x.cells.length = ti.sz)
    (ho : o + ti.sz ≤ c.size) (hn : ∀ y ∈ x.cells, NotAgg (den y)) : (storeVar t ⟨b, o, none⟩ (den x)).run P w = .ok () (putBlk w b (.cells (putAll c o (denL x.cells)) u (0, 0))) := by
  simp only [storeVar, Sem.run_bind, run_sizeOf' ht, Result.andThen_ok, SV.cells_den]
  rw [if_neg (by simp [denL_length, hl])]
  exact run_storeCells _ _ _ _ 0 h (by simp [denL_length, hl]; exact ho) (by
    intro v hv
    rw [denL_map] at hv
    obtain ⟨y, hy, rfl⟩ := List.mem_map.1 hv
    exact hn y hy)
def inK (x : Int) : Prop := -9223372036854775808 ≤ x ∧ x ≤ 9223372036854775807
theorem wrap_inK {x : Int} (h : inK x) : IntKind.i64.wrap x = x := by
  unfold inK at h
  exact IntWalk.i64_in x (by omega)
def bitv (op : BinOp) (k : IntKind) (x y : Int) : Int :=
  match op with
  | .and => k.wrap (BitVec.ofInt k.bits x &&& BitVec.ofInt k.bits y).toNat
  | .or => k.wrap (BitVec.ofInt k.bits x ||| BitVec.ofInt k.bits y).toNat
  | .xor => k.wrap (BitVec.ofInt k.bits x ^^^ BitVec.ofInt k.bits y).toNat
  | _ => k.wrap (BitVec.ofInt k.bits x &&& ~~~(BitVec.ofInt k.bits y)).toNat
def arith (nw : Bool) (k : IntKind) (x : Int) : List Prop × SV :=
  match nw, k with
  | true, .i64 => ([inK x], .v (.int .i64 x))
  | _, k => ([], .v (.int k (k.wrap x)))
theorem arith_sound {nw : Bool} {k : IntKind} {x : Int} (h : ∀ p ∈ (arith nw k x).1, p) : den (arith nw k x).2 = .int k (k.wrap x) := by
  unfold arith at *
  split <;> rename_i hk
  · simp only [List.mem_singleton, forall_eq] at h; simp [den, wrap_inK h]
  · rfl
def evInt (nw : Bool) (op : BinOp) (k : IntKind) (a : Int) (k' : IntKind) (b : Int) : Option (List Prop × SV) :=
  match op with
  | .shl => some ([0 ≤ b], .v (.int k (k.wrap (a * 2 ^ min b.toNat k.bits))))
  | .shr => some ([0 ≤ b], .v (.int k (a.fdiv (2 ^ min b.toNat k.bits))))
  | op => if k = k' then (match op with
    | .add => some (arith nw k (a + b))
    | .sub => some (arith nw k (a - b))
    | .mul => some (arith nw k (a * b))
    | .quo => some ((b ≠ 0) :: (arith nw k (a.tdiv b)).1, (arith nw k (a.tdiv b)).2)
    | .rem => some ([b ≠ 0], .v (.int k (a.tmod b)))
    | .and => some ([], .v (.int k (bitv .and k a b)))
    | .or => some ([], .v (.int k (bitv .or k a b)))
    | .xor => some ([], .v (.int k (bitv .xor k a b)))
    | .andNot => some ([], .v (.int k (bitv .andNot k a b)))
    | .eql => some ([], .v (.bool (a == b)))
    | .neq => some ([], .v (.bool (a != b)))
    | .lss => some ([], .v (.bool (decide (a < b))))
    | .leq => some ([], .v (.bool (decide (a ≤ b))))
    | .gtr => some ([], .v (.bool (decide (b < a))))
    | .geq => some ([], .v (.bool (decide (b ≤ a))))
    | _ => none) else none
theorem evInt_sound {P : Program} {w : World} {nw : Bool} {op : BinOp} {t : TypeId} {k k' : IntKind} {a b : Int} {obs : List Prop} {x : SV} (h : evInt nw op k a k' b = some (obs, x)) (ho : ∀ p ∈ obs, p) :
    (binOp op t (.int k a) (.int k' b)).run P w = .ok (den x) w := by
  unfold evInt at h
  split at h
  · cases h
    have hb : 0 ≤ b := ho _ (by simp)
    simp [binOp, Op.shift, den, Int.not_lt.2 hb]
  · cases h
    have hb : 0 ≤ b := ho _ (by simp)
    simp [binOp, Op.shift, den, Int.not_lt.2 hb]
  · rename_i hnl hnr
    split at h
    · rename_i hk
      subst hk
      cases op <;> simp only [reduceCtorEq] at h hnl hnr <;> first
        | (cases h; done)
        | (cases h; simp [binOp, Op.intBits, bitv, den]; done)
        | (cases h; simp [binOp, Op.intCmp, den]; done)
        | (simp only [Option.some.injEq] at h
           rw [Prod.ext_iff] at h
           obtain ⟨h1, h2⟩ := h
           simp only [] at h1 h2
           subst h1; subst h2
           simp [binOp, Op.intArith, arith_sound ho]; done)
        | (cases h
           have hb : b ≠ 0 := ho _ (by simp)
           simp [binOp, Op.intDiv, hb, den]; done)
        | (simp only [Option.some.injEq] at h
           rw [Prod.ext_iff] at h
           obtain ⟨h1, h2⟩ := h
           simp only [] at h1 h2
           subst h1; subst h2
           have hb : b ≠ 0 := ho _ (by simp)
           rw [arith_sound (fun p hp => ho p (List.mem_cons_of_mem _ hp))]
           simp [binOp, Op.intDiv, hb]; done)
    · cases h
end Go.SX
namespace Go.SX
open Go
abbrev Hp := List (Nat × Bool × SO)
abbrev Ev := Option (List Prop × SV)
def evEq (d : TD) (x y : SV) : Option Bool :=
  match d, x, y with
  | .bool, .v (.bool a), .v (.bool b) => some (a == b)
  | .ptr _, .ptr .., .v (.pointer none) => some false
  | .ptr _, .el .., .v (.pointer none) => some false
  | .ptr _, .v (.pointer none), .v (.pointer none) => some true
  | .slice _, .sl .., .v (.slice none _ _) => some false
  | .slice _, .v (.slice none _ _), .v (.slice none _ _) => some true
  | .slice _, .v (.slice (some _) _ _), .v (.slice none _ _) => some false
  | .func, .fn .., .v .nilFunc => some false
  | .func, .v .nilFunc, .v .nilFunc => some true
  | .map .., .v (.map none), .v (.map none) => some true
  | .map .., .v (.map (some _)), .v (.map none) => some false
  | .map .., .mp .., .v (.map none) => some false
  | _, _, _ => none
theorem TI.ok.bool {P : Program} {t : TypeId} {i : TI} (h : i.ok P t) (hd : i.d = .bool) : P.underlying t = some .bool := by
  obtain ⟨d, h1, h2⟩ := h.under
  rw [hd] at h2
  cases d <;> simp [toTD] at h2
  exact h1
theorem TI.ok.func {P : Program} {t : TypeId} {i : TI} (h : i.ok P t) (hd : i.d = .func) : ∃ p r v, P.underlying t = some (.func p r v) := by
  obtain ⟨d, h1, h2⟩ := h.under
  rw [hd] at h2
  cases d <;> simp [toTD] at h2
  exact ⟨_, _, _, h1⟩
theorem evEq_in {P : Program} {t : TypeId} {i : TI} (h : i.ok P t) {x y : SV} {b : Bool} (he : evEq i.d x y = some b) (w : World) (d : Nat) :
    (Op.equalIn (d + 1) t (den x) (den y)).run P w = .ok b w := by
  unfold evEq at he
  split at he <;> first | (cases he; done) | skip
  all_goals (rename_i hd; cases he)
  all_goals first
    | (have hu := h.bool hd; simp [den, Op.equalIn, run_underlying hu]; done)
    | (have hu := h.ptr hd; simp [den, Op.equalIn, run_underlying hu]; done)
    | (have hu := h.slice hd; simp [den, Op.equalIn, run_underlying hu]; done)
    | (have hu := h.map hd; simp [den, Op.equalIn, run_underlying hu]; done)
    | (obtain ⟨p, r, v, hu⟩ := h.func hd; simp [den, Op.equalIn, run_underlying hu]; done)
theorem run_equal {P : Program} {w : World} {t : TypeId} {x y : Value} {b : Bool} (h : ∀ d, (Op.equalIn (d + 1) t x y).run P w = .ok b w) : (Op.equal t x y).run P w = .ok b w := h 9999
theorem evEq_sound {P : Program} {t : TypeId} {i : TI} (h : i.ok P t) {x y : SV} {b : Bool} (he : evEq i.d x y = some b) (w : World) :
    (binOp .eql t (den x) (den y)).run P w = .ok (.bool b) w ∧ (binOp .neq t (den x) (den y)).run P w = .ok (.bool (!b)) w ∧
    ∀ op (a c : Operand), eqGuard op t a c (den x) (den y) = pure () := by
  have hq : (Op.equal t (den x) (den y)).run P w = .ok b w := run_equal (evEq_in h he w)
  unfold evEq at he
  split at he <;> first | (cases he; done) | skip
  all_goals cases he
  all_goals simp only [den] at hq ⊢
  all_goals refine ⟨by simp only [binOp, Sem.run_bind, hq, Result.andThen_ok, Sem.run_pure], by simp only [binOp, Sem.run_bind, hq, Result.andThen_ok, Sem.run_pure], fun op a c => ?_⟩
  all_goals first
    | exact eqGuard_at_bool .. | exact eqGuard_at_pointer .. | exact eqGuard_at_slice .. | exact eqGuard_at_func .. | exact eqGuard_at_nilFunc .. | exact eqGuard_at_map ..
def evLoad (tt : List (Nat × TI)) (hp : Hp) (t : TypeId) (x : SV) : Ev :=
  match lookT tt t with
  | none => none
  | some ti => match x with
    | .ptr i b o => match hp[i]? with
      | some (b', _, .cells l _) => (shapeUp ti.d.isAgg ti.sz ((l.drop o).take ti.sz)).map fun y => ([b = b'], y)
      | _ => none
    | .el i b o0 idx sz sub => match hp[i]? with
      | some (b', _, .arr o0' n row sz' _ _) => if sz = sz' then (shapeUp ti.d.isAgg ti.sz (((row idx).drop sub).take ti.sz)).map fun y => ([b = b', o0 = o0', idx < n], y) else none
      | _ => none
    | _ => none
theorem evLoad_sound {P : Program} {tt : List (Nat × TI)} (htt : TTok P tt) {hp : Hp} {w : World} (hh : HpRep hp w) {t : TypeId} {x : SV} {obs : List Prop} {y : SV}
    (h : evLoad tt hp t x = some (obs, y)) (ho : ∀ p ∈ obs, p) : (Instr.loadAt t (den x)).run P w = .ok (den y) w := by
  unfold evLoad at h
  split at h
  · cases h
  rename_i ti hti
  have hok := htt t ti hti
  split at h
  · rename_i i b o
    split at h
    · rename_i b' m l u hb
      simp only [Option.map_eq_some_iff, Prod.mk.injEq] at h
      obtain ⟨z, hz, h1, h2⟩ := h
      subst h1; subst h2
      have e : b = b' := ho _ (by simp)
      subst e
      have hr : w.heap[b]? = some (.cells (denL l).toArray u (0, 0)) := hh i b m _ hb
      simp only [Instr.loadAt, Instr.sureAddr, den, Sem.run_bind, Sem.run_pure, Result.andThen_ok]
      refine run_loadVar hok hz fun j hj => ?_
      rw [cell_of hr, denL_get?, List.getElem?_toArray, denL_get?]
      simp only [List.length_take, List.length_drop] at hj
      rw [List.getElem?_take_of_lt (by omega), List.getElem?_drop]
    · cases h
  · rename_i i b o0 idx sz sub
    split at h
    · rename_i b' m o0' n row sz' u fz hb
      split at h
      · rename_i hsz
        simp only [Option.map_eq_some_iff, Prod.mk.injEq] at h
        obtain ⟨z, hz, h1, h2⟩ := h
        subst h1; subst h2
        have e : b = b' := ho _ (by simp)
        have e0 : o0 = o0' := ho _ (by simp)
        have hlt : idx < n := ho _ (by simp)
        subst e
        subst e0
        subst hsz
        obtain ⟨c, hc, hsize, hrow⟩ := hh i b m _ hb
        simp only [Instr.loadAt, Instr.sureAddr, den, Sem.run_bind, Sem.run_pure, Result.andThen_ok]
        obtain ⟨hl, hg⟩ := hrow idx hlt
        refine run_loadVar hok hz fun j hj => ?_
        simp only [List.length_take, List.length_drop, hl] at hj
        rw [cell_of hc, Nat.add_assoc, Nat.add_assoc, hg (sub + j) (by omega), denL_get?, denL_get?, List.getElem?_take_of_lt (by omega), List.getElem?_drop]
      · cases h
    · cases h
  · cases h
def evFieldAddr (tt : List (Nat × TI)) (t : TypeId) (x : SV) (f : Nat) : Option SV :=
  match lookT tt t with
  | some { d := .struct fs, .. } => match fs[f]? with
    | some (off, ft) => match lookT tt ft with
      | some fi => if fi.sz = 0 then none else match x with
        | .ptr i b o => some (.ptr i b (o + off))
        | .el i b o0 idx sz sub => some (.el i b o0 idx sz (sub + off))
        | _ => none
      | none => none
    | none => none
  | _ => none
theorem struct_field {P : Program} {t : TypeId} {ti : TI} (h : ti.ok P t) {fs : List (Nat × Nat)} (hd : ti.d = .struct fs) {f off ft : Nat} (hf : fs[f]? = some (off, ft)) :
    ∃ (a : Array Field) (g : Field), P.underlying t = some (.struct a) ∧ a[f]? = some g ∧ g.offset = off ∧ g.type = ft := by
  obtain ⟨a, h1, h2⟩ := h.struct hd
  rw [← h2, List.getElem?_map] at hf
  cases hg : a.toList[f]? with
  | none => rw [hg] at hf; cases hf
  | some g =>
    rw [hg] at hf
    simp only [Option.map_some, Option.some.injEq, Prod.mk.injEq] at hf
    exact ⟨a, g, h1, by simpa using hg, hf.1, hf.2⟩
theorem evFieldAddr_sound {P : Program} {tt : List (Nat × TI)} (htt : TTok P tt) {t : TypeId} {x y : SV} {f : Nat} (h : evFieldAddr tt t x f = some y) (w : World) :
    (Instr.fieldAt t (den x) f).run P w = .ok (den y) w := by
  unfold evFieldAddr at h
  split at h
  · rename_i fs _ _ _ hti
    split at h
    · rename_i off ft hf
      split at h
      · rename_i fi hfi
        obtain ⟨a, g, h1, h2, h3, h4⟩ := struct_field (htt _ _ hti) rfl hf
        have hs := run_sizeOf' (htt _ _ hfi) w
        split at h
        · cases h
        rename_i hz
        have hfp : ∀ ad : Addr, (fieldPlace ad g).run P w = .ok (ad.add off) w := fun ad => by
          simp only [fieldPlace, Sem.run_bind, h4, hs, Result.andThen_ok, if_neg hz, h3, Sem.run_pure]
        split at h <;> first | (cases h; done) | skip
        · cases h
          simp [Instr.fieldAt, run_underlying h1, h2, den, Instr.sureAddr, hfp, add_none]
        · cases h
          simp [Instr.fieldAt, run_underlying h1, h2, den, Instr.sureAddr, hfp, add_none, Nat.add_assoc]
      · cases h
    · cases h
  · cases h
def evField (tt : List (Nat × TI)) (t : TypeId) (x : SV) (f : Nat) : Option SV :=
  match lookT tt t with
  | some { d := .struct fs, .. } => match fs[f]? with
    | some (off, ft) => match lookT tt ft with
      | some fi => match x with
        | .ag l => shapeUp fi.d.isAgg fi.sz ((l.drop off).take fi.sz)
        | _ => none
      | none => none
    | none => none
  | _ => none
theorem shapeUp_part {P : Program} {t : TypeId} {ti : TI} (h : ti.ok P t) {l : List SV} {off : Nat} {y : SV} (hs : shapeUp ti.d.isAgg ti.sz ((l.drop off).take ti.sz) = some y) (w : World) :
    (part t (denL l).toArray off).run P w = .ok (den y) w := by
  unfold part shapeUp at *
  simp only [Sem.run_bind, run_isAgg h, Result.andThen_ok]
  split at hs
  · rename_i hagg
    split at hs
    · cases hs
      simp only [hagg, if_true, Sem.run_bind, run_sizeOf' h, Result.andThen_ok, Sem.run_pure, den]
      congr 2
      rw [List.extract_toArray, denL_take, denL_drop, List.extract_eq_take_drop]
      congr 2
      omega
    · cases hs
  · rename_i hagg
    have hagg' : ti.d.isAgg = false := by simpa using hagg
    simp only [hagg', Bool.false_eq_true, if_false]
    split at hs
    · rename_i z hz
      cases hs
      have h1 : ((l.drop off).take ti.sz)[0]? = some y := by rw [hz]; rfl
      have h0 : 0 < ti.sz := by
        rcases Nat.eq_zero_or_pos ti.sz with h0 | h0
        · rw [h0] at h1; simp at h1
        · exact h0
      rw [List.getElem?_take_of_lt h0, List.getElem?_drop, Nat.add_zero] at h1
      have : (denL l).toArray[off]? = some (den y) := by rw [List.getElem?_toArray, denL_get?, h1]; rfl
      simp [this]
    · cases hs
theorem evField_sound {P : Program} {tt : List (Nat × TI)} (htt : TTok P tt) {t : TypeId} {x y : SV} {f : Nat} (h : evField tt t x f = some y) (w : World) :
    (Instr.field t (den x) f).run P w = .ok (den y) w := by
  unfold evField at h
  split at h
  · rename_i fs _ _ _ hti
    split at h
    · rename_i off ft hf
      split at h
      · rename_i fi hfi
        obtain ⟨a, g, h1, h2, h3, h4⟩ := struct_field (htt _ _ hti) rfl hf
        split at h
        · simp [Instr.field, run_underlying h1, h2, den, asAgg, h3, h4, shapeUp_part (htt _ _ hfi) h]
        · cases h
      · cases h
    · cases h
  · cases h
def evIndexAddr (tt : List (Nat × TI)) (hp : Hp) (t : TypeId) (x ix : SV) : Ev :=
  match lookT tt t, ix with
  | some { d := .slice e, .. }, .v (.int _ n) => match lookT tt e with
    | some te => match x with
      | .sl i b o0 base len _ sz => if te.sz = sz then some ([0 ≤ n, n < (len : Int)], .el i b o0 (base + n.toNat) sz 0) else none
      | _ => none
    | none => none
  | some { d := .arr N e, .. }, .v (.int _ n) => match lookT tt e with
    | some te => match x with
      | .ptr i b o => match hp[i]?, o with
        | some (_, _, .arr ..), 0 => some ([0 ≤ n, n < (N : Int)], .el i b 0 n.toNat te.sz 0)
        | _, _ => some ([0 ≤ n, n < (N : Int)], .ptr i b (o + n.toNat * te.sz))
      | .el i b o0 idx sz sub => some ([0 ≤ n, n < (N : Int)], .el i b o0 idx sz (sub + n.toNat * te.sz))
      | _ => none
    | none => none
  | _, _ => none
theorem evIndexAddr_sound {P : Program} {tt : List (Nat × TI)} (htt : TTok P tt) {hp : Hp} {t : TypeId} {x ix y : SV} {obs : List Prop} (h : evIndexAddr tt hp t x ix = some (obs, y)) (ho : ∀ p ∈ obs, p) (w : World) :
    (Instr.indexAt t (den x) (den ix)).run P w = .ok (den y) w := by
  unfold evIndexAddr at h
  split at h
  · rename_i e _ _ _ k n hti
    have hu := (htt _ _ hti).slice rfl
    split at h
    · rename_i te hte
      have hs := run_sizeOf' (htt _ _ hte) w
      split at h
      · rename_i i b o0 base len cap sz
        split at h
        · rename_i hsz
          cases h
          have h0 : 0 ≤ n := ho _ (by simp)
          have h1 : n < (len : Int) := ho _ (by simp)
          simp [Instr.indexAt, den, asIntOf, run_underlying hu, hs, h0, h1, add_none, hsz, Nat.add_mul, Nat.add_assoc]
        · cases h
      · cases h
    · cases h
  · rename_i N e _ _ _ k n hti
    have hu := (htt _ _ hti).arr rfl
    split at h
    · rename_i te hte
      have hs := run_sizeOf' (htt _ _ hte) w
      split at h
      · split at h
        · cases h
          have h0 : 0 ≤ n := ho _ (by simp)
          have h1 : n < (N : Int) := ho _ (by simp)
          simp [Instr.indexAt, den, asIntOf, run_underlying hu, hs, h0, h1, add_none, Instr.sureAddr]
        · cases h
          have h0 : 0 ≤ n := ho _ (by simp)
          have h1 : n < (N : Int) := ho _ (by simp)
          simp [Instr.indexAt, den, asIntOf, run_underlying hu, hs, h0, h1, add_none, Instr.sureAddr]
      · cases h
        have h0 : 0 ≤ n := ho _ (by simp)
        have h1 : n < (N : Int) := ho _ (by simp)
        simp [Instr.indexAt, den, asIntOf, run_underlying hu, hs, h0, h1, add_none, Instr.sureAddr, Nat.add_assoc]
      · cases h
    · cases h
  · cases h
def evStr (op : BinOp) (a b : ByteArray) : Ev :=
  match op with
  | .eql => some ([], .v (.bool (a.toList == b.toList)))
  | .neq => some ([], .v (.bool (!(a.toList == b.toList))))
  | .add => some ([(a.size + b.size : Int) ≤ 9223372036854775807], .v (.string (a ++ b)))
  | .lss => some ([], .v (.bool (Op.bytesLess a.toList b.toList)))
  | _ => none
def evBin (nw : Bool) (tt : List (Nat × TI)) (op : BinOp) (t : TypeId) (x y : SV) : Ev :=
  match x, y with
  | .v (.int k a), .v (.int k' b) => evInt nw op k a k' b
  | .v (.string a), .v (.string b) => evStr op a b
  | x, y => match lookT tt t, op with
    | some ti, .eql => (evEq ti.d x y).map fun b => ([], .v (.bool b))
    | some ti, .neq => (evEq ti.d x y).map fun b => ([], .v (.bool (!b)))
    | _, _ => none
theorem evBin_sound {P : Program} {tt : List (Nat × TI)} (htt : TTok P tt) {nw : Bool} {op : BinOp} {t : TypeId} {x y z : SV} {obs : List Prop} (h : evBin nw tt op t x y = some (obs, z)) (ho : ∀ p ∈ obs, p)
    (a c : Operand) (w : World) : (do eqGuard op t a c (den x) (den y); binOp op t (den x) (den y) : Sem Value).run P w = .ok (den z) w := by
  unfold evBin at h
  split at h
  · rename_i k a' k' b'
    simp only [den, eqGuard_at_int, pure_bind]
    exact evInt_sound h ho
  · rename_i a' b'
    simp only [den, eqGuard_at_string, pure_bind]
    unfold evStr at h
    split at h <;> first | (cases h; done) | skip
    · cases h; simp only [binOp, Op.stringOp, Sem.run_pure, den]
    · cases h; simp only [binOp, Op.stringOp, Sem.run_pure, den]
    · cases h
      have h1 := ho _ (List.mem_singleton.2 rfl)
      have h2 : ¬ ((a'.size + b'.size : Nat) : Int) > IntKind.i64.max := by
        have : IntKind.i64.max = 9223372036854775807 := by decide
        rw [this]; omega
      simp only [binOp, Op.stringOp, if_neg h2, Sem.run_pure, den]
    · cases h; simp only [binOp, Op.stringOp, Sem.run_pure, den]
  · split at h
    · rename_i ti hti
      simp only [Option.map_eq_some_iff, Prod.mk.injEq] at h
      obtain ⟨b, hb, h1, h2⟩ := h
      subst h2
      obtain ⟨e1, _, e3⟩ := evEq_sound (htt _ _ hti) hb w
      simp only [e3, pure_bind, e1, den]
    · rename_i ti hti
      simp only [Option.map_eq_some_iff, Prod.mk.injEq] at h
      obtain ⟨b, hb, h1, h2⟩ := h
      subst h2
      obtain ⟨_, e2, e3⟩ := evEq_sound (htt _ _ hti) hb w
      simp only [e3, pure_bind, e2, den]
    · cases h
def evFill (places : Nat → Option (Nat × Nat)) : List SV → List (Nat × SV) → Option (List SV)
  | z, [] => some z
  | z, (i, x) :: r => match places i with
    | some (off, size) => if x.cells.length = size ∧ off + size ≤ z.length then evFill places (spliceL z off x.cells) r else none
    | none => none
theorem zipIdx_putAll : ∀ (l : List Value) (k off : Nat) (c : Array Value), (l.zipIdx k).foldl (fun cs (p : Value × Nat) => cs.setIfInBounds (off + p.2) p.1) c = putAll c (off + k) l
  | [], _, _, _ => rfl
  | v :: r, k, off, c => by
    simp only [List.zipIdx_cons, List.foldl_cons, putAll]
    rw [zipIdx_putAll r (k + 1) off]
    rfl
theorem evFill_sound {places : Nat → Option (Nat × Nat)} : ∀ (parts : List (Nat × SV)) (z r : List SV), evFill places z parts = some r →
    Instr.fill places (denL z).toArray (parts.map fun p => (p.1, den p.2)) = some (denL r).toArray
  | [], z, r, h => by cases h; rfl
  | (i, x) :: l, z, r, h => by
    simp only [evFill] at h
    split at h
    · rename_i off size hp
      split at h
      · rename_i hc
        simp only [List.map_cons, Instr.fill, hp, SV.cells_den]
        rw [if_neg (by simp [denL_length]; omega)]
        rw [← Array.foldl_toList, Array.toList_zipIdx]
        have := zipIdx_putAll (denL x.cells) 0 off (denL z).toArray
        simp only [Nat.add_zero] at this
        rw [show (denL x.cells).toArray.toList = denL x.cells from rfl]
        rw [this, putAll_splice (by omega)]
        exact evFill_sound l _ _ h
      · cases h
    · cases h
def cellsV (x : Value) : List SV := x.cells.toList.map .v
theorem denL_cellsV (x : Value) : denL (cellsV x) = x.cells.toList := by simp [cellsV, denL_map_v]
def szs (tt : List (Nat × TI)) : List (Nat × Nat) → Option (List (Nat × Nat))
  | [] => some []
  | (off, ft) :: r => match lookT tt ft, szs tt r with
    | some i, some l => some ((off, i.sz) :: l)
    | _, _ => none
theorem run_places {P : Program} {tt : List (Nat × TI)} (htt : TTok P tt) (w : World) : ∀ (fs : List Field) (l : List (Nat × Nat)), szs tt (fs.map fun f => (f.offset, f.type)) = some l →
    (fs.mapM fun f => (do pure (f.offset, ← sizeOf f.type) : Sem (Nat × Nat))).run P w = .ok l w
  | [], l, h => by cases h; simp
  | f :: fs, l, h => by
    simp only [List.map_cons, szs] at h
    split at h
    · rename_i i l' h1 h2
      cases h
      simp only [List.mapM_cons, Sem.run_bind, run_sizeOf' (htt _ _ h1), Result.andThen_ok, Sem.run_pure, run_places htt w fs l' h2]
    · cases h
def evBuild (tt : List (Nat × TI)) (t : TypeId) (parts : List (Nat × SV)) : Option SV :=
  match lookT tt t with
  | some { d := .struct fs, zero, .. } => match szs tt fs with
    | some l => (evFill (l[·]?) (cellsV zero) parts).map .ag
    | none => none
  | some { d := .arr _ e, zero, .. } => match lookT tt e with
    | some te => (evFill (fun i => some (i * te.sz, te.sz)) (cellsV zero) parts).map .ag
    | none => none
  | _ => none
theorem evBuild_sound {P : Program} {tt : List (Nat × TI)} (htt : TTok P tt) {t : TypeId} {parts : Array (Nat × Value)} {ps : List (Nat × SV)} (hps : parts.toList = ps.map fun p => (p.1, den p.2)) {y : SV} (h : evBuild tt t ps = some y) (w : World) :
    (Instr.build t parts).run P w = .ok (den y) w := by
  unfold evBuild at h
  split at h
  · rename_i fs _ _ zero hti
    have hok := htt _ _ hti
    obtain ⟨a, h1, h2⟩ := hok.struct rfl
    split at h
    · rename_i l hl
      simp only [Option.map_eq_some_iff] at h
      obtain ⟨r, hr, rfl⟩ := h
      have hm : (a.mapM fun f => (do pure (f.offset, ← sizeOf f.type) : Sem (Nat × Nat))).run P w = .ok l.toArray w := by
        rw [Array.mapM_eq_mapM_toList]
        rw [← h2] at hl
        simp only [Sem.run_map, run_places htt w _ _ hl, Result.andThen_ok]
      simp only [Instr.build, Sem.run_bind, run_zeroValue' hok, Result.andThen_ok, run_underlying h1, hm]
      have hf := evFill_sound ps _ _ hr
      rw [denL_cellsV] at hf
      rw [hps]
      simp only [List.getElem?_toArray, Array.toArray_toList] at hf ⊢
      simp [hf, den]
    · cases h
  · rename_i n e _ _ zero hti
    have hok := htt _ _ hti
    have h1 := hok.arr rfl
    split at h
    · rename_i te hte
      simp only [Option.map_eq_some_iff] at h
      obtain ⟨r, hr, rfl⟩ := h
      simp only [Instr.build, Sem.run_bind, run_zeroValue' hok, Result.andThen_ok, run_underlying h1, run_sizeOf' (htt _ _ hte)]
      have hf := evFill_sound ps _ _ hr
      rw [denL_cellsV] at hf
      rw [hps]
      simp only [Array.toArray_toList] at hf ⊢
      simp [hf, den]
    · cases h
  · cases h
end Go.SX
namespace Go.SX
open Go
def bnd : Option SV → Option (Option Int)
  | none => some none
  | some (.v (.int _ n)) => some (some n)
  | _ => none
def evSlice (tt : List (Nat × TI)) (t : TypeId) (x : SV) (lo hi : Option SV) : Ev :=
  match lookT tt t, bnd lo, bnd hi with
  | some { d := .slice e, .. }, some l, some h => match lookT tt e, x with
    | some te, .sl i b o0 base len cap sz =>
      let L : Int := l.getD 0
      let H : Int := h.getD len
      if te.sz = sz then some ([0 ≤ L, L ≤ H, H ≤ (cap : Int)], .sl i b o0 (if cap = L.toNat then base else base + L.toNat) (H.toNat - L.toNat) (cap - L.toNat) sz) else none
    | some _, .v (.slice none len cap) =>
      let L : Int := l.getD 0
      let H : Int := h.getD len
      some ([0 ≤ L, L ≤ H, H ≤ (cap : Int)], .v (.slice none (H.toNat - L.toNat) (cap - L.toNat)))
    | some _, .v (.slice (some a) 0 cap) => some ([l.getD 0 = 0, h.getD 0 = 0], .v (.slice (some a) 0 cap))
    | _, _ => none
  | some { d := .str, .. }, some l, some h => match x with
    | .v (.string s) =>
      let L : Int := l.getD 0
      let H : Int := h.getD s.size
      some ([0 ≤ L, L ≤ H, H ≤ (s.size : Int)], .v (.string (s.extract L.toNat H.toNat)))
    | _ => none
  | _, _, _ => none
theorem bnd_some {x : Option SV} {n : Int} (h : bnd x = some (some n)) : ∃ k, x = some (.v (.int k n)) := by
  unfold bnd at h
  split at h
  · cases h
  · rename_i k m; cases h; exact ⟨k, rfl⟩
  · cases h
theorem bnd_none {x : Option SV} (h : bnd x = some none) : x = none := by
  unfold bnd at h
  split at h
  · rfl
  · cases h
  · cases h
theorem run_bounds {P : Program} {w : World} {isSlice : Bool} {len cap : Nat} {lo hi : Option SV} {l h : Option Int} (hl : bnd lo = some l) (hh : bnd hi = some h)
    (h0 : 0 ≤ l.getD 0) (h1 : l.getD 0 ≤ h.getD len) (h2 : h.getD len ≤ (cap : Int)) :
    (Instr.sliceBounds isSlice len cap (lo.map den) (hi.map den) none).run P w = .ok ((l.getD 0).toNat, (h.getD len).toNat, cap) w := by
  cases l with
  | none =>
    rw [bnd_none hl]
    cases h with
    | none => rw [bnd_none hh]; simp [Instr.sliceBounds]
    | some n =>
      obtain ⟨k, rfl⟩ := bnd_some hh
      simp only [Option.getD_some, Option.getD_none] at *
      simp [Instr.sliceBounds, den, run_sliceBound, h1, h2]
  | some m =>
    obtain ⟨k, rfl⟩ := bnd_some hl
    cases h with
    | none =>
      rw [bnd_none hh]
      simp only [Option.getD_some, Option.getD_none] at *
      simp [Instr.sliceBounds, den, run_sliceBound, h0, h1]
    | some n =>
      obtain ⟨k', rfl⟩ := bnd_some hh
      simp only [Option.getD_some] at *
      have h3 : 0 ≤ n := by omega
      have h4 : m ≤ (n.toNat : Int) := by omega
      simp only [Instr.sliceBounds, Option.map_some, den, Sem.run_bind, Sem.run_pure, Result.andThen_ok, run_sliceBound w k' n cap _ h3 h2, Option.isSome_none, Bool.false_eq_true, if_false, run_sliceBound w k m n.toNat _ h0 h4]
theorem evSlice_sound {P : Program} {tt : List (Nat × TI)} (htt : TTok P tt) {t : TypeId} {x y : SV} {lo hi : Option SV} {obs : List Prop} (h : evSlice tt t x lo hi = some (obs, y)) (ho : ∀ p ∈ obs, p) (w : World) :
    (Instr.sliceAt t (den x) (lo.map den) (hi.map den) none).run P w = .ok (den y) w := by
  unfold evSlice at h
  split at h
  · rename_i e _ _ _ l hh hti hl hhi
    have hu := (htt _ _ hti).slice rfl
    split at h
    · rename_i te i b o0 base len cap sz hte
      have hs := run_sizeOf' (htt _ _ hte) w
      simp only [] at h
      split at h
      · rename_i hsz
        cases h
        have h0 := ho _ (List.mem_cons_self ..)
        have h1 := ho (l.getD 0 ≤ hh.getD len) (by simp)
        have h2 := ho (hh.getD len ≤ (cap : Int)) (by simp)
        by_cases hne : cap = (l.getD 0).toNat
        · simp [Instr.sliceAt, Instr.slice, run_underlying hu, den, run_bounds hl hhi h0 h1 h2, hs, ← hne]
        · simp [Instr.sliceAt, Instr.slice, run_underlying hu, den, run_bounds hl hhi h0 h1 h2, hs, hne, add_none, hsz, Nat.add_mul, Nat.add_assoc]
      · cases h
    · rename_i te len cap hte
      have hs := run_sizeOf' (htt _ _ hte) w
      cases h
      have h0 := ho (0 ≤ l.getD 0) (by simp)
      have h1 := ho (l.getD 0 ≤ hh.getD len) (by simp)
      have h2 := ho (hh.getD len ≤ (cap : Int)) (by simp)
      simp [Instr.sliceAt, Instr.slice, run_underlying hu, den, run_bounds hl hhi h0 h1 h2, hs]
    · rename_i te a cap hte
      have hs := run_sizeOf' (htt _ _ hte) w
      cases h
      have e1 := ho (l.getD 0 = 0) (by simp)
      have e2 := ho (hh.getD 0 = 0) (by simp)
      have hb := run_bounds (P := P) (w := w) (isSlice := true) (len := 0) (cap := cap) hl hhi (by omega) (by rw [e1]; simp [e2]) (by simp [e2])
      have e3 : (l.getD 0).toNat = 0 := by rw [e1]; rfl
      have e4 : (hh.getD ((0 : Nat) : Int)).toNat = 0 := by
        have : hh.getD ((0 : Nat) : Int) = 0 := e2
        rw [this]; rfl
      rw [e3, e4] at hb
      have ha : a.add 0 = a := by simp [Addr.add]
      simp [Instr.sliceAt, Instr.slice, run_underlying hu, den, hb, hs, ha]
    · cases h
  · rename_i _ _ _ l hh hti hl hhi
    have hu := (htt _ _ hti).str rfl
    split at h
    · rename_i s
      cases h
      have h0 := ho (0 ≤ l.getD 0) (by simp)
      have h1 := ho (l.getD 0 ≤ hh.getD s.size) (by simp)
      have h2 := ho (hh.getD s.size ≤ (s.size : Int)) (by simp)
      simp [Instr.sliceAt, Instr.slice, run_underlying hu, den, run_bounds hl hhi h0 h1 h2]
    · cases h
  · cases h
def evConv (tt : List (Nat × TI)) (src dst : TypeId) (x : SV) : Option SV :=
  match lookT tt src, lookT tt dst, x with
  | some _, some { d := .int k, .. }, .v (.int _ n) => some (.v (.int k (k.wrap n)))
  | some _, some { d := .str, .. }, .v (.string s) => some (.v (.string s))
  | _, _, _ => none
theorem evConv_sound {P : Program} {tt : List (Nat × TI)} (htt : TTok P tt) {src dst : TypeId} {x y : SV} (h : evConv tt src dst x = some y) (w : World) :
    (convert src dst (den x)).run P w = .ok (den y) w := by
  unfold evConv at h
  split at h
  · rename_i si k _ _ _ k' n hs hd
    cases h
    obtain ⟨d, h1, _⟩ := (htt _ _ hs).under
    simp [convert, run_underlying h1, run_underlying ((htt _ _ hd).int rfl), den, Conv.intToInt]
  · rename_i si _ _ _ s hs hd
    cases h
    obtain ⟨d, h1, _⟩ := (htt _ _ hs).under
    simp [convert, run_underlying h1, run_underlying ((htt _ _ hd).str rfl), den]
  · cases h
def ints : List SV → Option (List Int)
  | [] => some []
  | .v (.int .i64 n) :: r => (ints r).map (n :: ·)
  | _ => none
def foldI (f : Int → Int → Int) : List Int → Int
  | [] => 0
  | x :: r => r.foldl f x
def evBuiltin (tt : List (Nat × TI)) (b : Builtin) (ts : List TypeId) (xs : List SV) : Option SV :=
  match b, xs with
  | .len, [x] => match ts with
    | [t] => match lookT tt t, x with
      | some { d := .slice _, .. }, .sl _ _ _ _ len _ _ => some (.v (.int .i64 len))
      | some { d := .slice _, .. }, .v (.slice _ len _) => some (.v (.int .i64 len))
      | some { d := .str, .. }, .v (.string s) => some (.v (.int .i64 s.size))
      | some { d := .arr n _, .. }, _ => some (.v (.int .i64 n))
      | _, _ => none
    | _ => none
  | .cap, [x] => match ts with
    | [t] => match lookT tt t, x with
      | some { d := .slice _, .. }, .sl _ _ _ _ _ cap _ => some (.v (.int .i64 cap))
      | some { d := .slice _, .. }, .v (.slice _ _ cap) => some (.v (.int .i64 cap))
      | _, _ => none
    | _ => none
  | .min, x :: xs => match ints (x :: xs) with
    | some l => some (.v (.int .i64 (foldI (fun a b => if b < a then b else a) l)))
    | none => none
  | .max, x :: xs => match ints (x :: xs) with
    | some l => some (.v (.int .i64 (foldI (fun a b => if b > a then b else a) l)))
    | none => none
  | _, _ => none
theorem ints_den : ∀ (xs : List SV) (l : List Int), ints xs = some l → denL xs = l.map (Value.int .i64)
  | [], l, h => by cases h; rfl
  | x :: xs, l, h => by
    unfold ints at h
    split at h
    · rename_i heq; cases heq
    · rename_i n r heq
      cases heq
      simp only [Option.map_eq_some_iff] at h
      obtain ⟨l', h1, rfl⟩ := h
      simp [denL, den, ints_den _ _ h1]
    · cases h
theorem run_fold_min {P : Program} {w : World} : ∀ (l : List Int) (x : Int), ((l.map (Value.int .i64)).foldlM Builtin.min2 (.int .i64 x)).run P w = .ok (.int .i64 (l.foldl (fun a b => if b < a then b else a) x)) w
  | [], x => by simp
  | y :: l, x => by
    simp only [List.map_cons, List.foldlM_cons, Sem.run_bind, Builtin.min2, Sem.run_pure, Result.andThen_ok, List.foldl_cons]
    exact run_fold_min l _
theorem run_fold_max {P : Program} {w : World} : ∀ (l : List Int) (x : Int), ((l.map (Value.int .i64)).foldlM Builtin.max2 (.int .i64 x)).run P w = .ok (.int .i64 (l.foldl (fun a b => if b > a then b else a) x)) w
  | [], x => by simp
  | y :: l, x => by
    simp only [List.map_cons, List.foldlM_cons, Sem.run_bind, Builtin.max2, Sem.run_pure, Result.andThen_ok, List.foldl_cons]
    exact run_fold_max l _
theorem evBuiltin_sound {P : Program} {tt : List (Nat × TI)} (htt : TTok P tt) {b : Builtin} {ts : List TypeId} {xs : List SV} {y : SV} (h : evBuiltin tt b ts xs = some y) (ty : TypeId) (cs : Array Bool) (w : World) :
    (builtin b ts.toArray ty cs (denL xs).toArray).run P w = .ok (.value (den y)) w := by
  unfold evBuiltin at h
  split at h
  · rename_i x
    split at h
    · rename_i t
      split at h
      · rename_i hti; cases h; simp [builtin, Builtin.len_, denL, den, run_underlying ((htt _ _ hti).slice rfl), goInt]
      · rename_i hti; cases h; simp [builtin, Builtin.len_, denL, den, run_underlying ((htt _ _ hti).slice rfl), goInt]
      · rename_i hti; cases h; simp [builtin, Builtin.len_, denL, den, run_underlying ((htt _ _ hti).str rfl), goInt]
      · rename_i hti; cases h; simp [builtin, Builtin.len_, denL, den, run_underlying ((htt _ _ hti).arr rfl), goInt]
      · cases h
    · cases h
  · rename_i x
    split at h
    · rename_i t
      split at h
      · rename_i hti; cases h; simp [builtin, Builtin.cap_, denL, den, run_underlying ((htt _ _ hti).slice rfl), goInt]
      · rename_i hti; cases h; simp [builtin, Builtin.cap_, denL, den, run_underlying ((htt _ _ hti).slice rfl), goInt]
      · cases h
    · cases h
  · rename_i x xs
    split at h
    · rename_i l hl
      cases h
      have e := ints_den _ _ hl
      cases l with
      | nil => simp [denL] at e
      | cons n l =>
        simp only [e, builtin, Builtin.min_, List.map_cons, Sem.run_bind, run_fold_min, Result.andThen_ok, Sem.run_pure, den, foldI]
    · cases h
  · rename_i x xs
    split at h
    · rename_i l hl
      cases h
      have e := ints_den _ _ hl
      cases l with
      | nil => simp [denL] at e
      | cons n l =>
        simp only [e, builtin, Builtin.max_, List.map_cons, Sem.run_bind, run_fold_max, Result.andThen_ok, Sem.run_pure, den, foldI]
    · cases h
  · cases h
end Go.SX
namespace Go.SX
open Go
theorem findNow_map (k : Int) : ∀ (l : List (Int × SV × Nat)) (i : Nat), Instr.findNow (.int .i64) (.int .i64 k) (l.map mkEntry) i = some ((l.findIdx? (fun e => k == e.1)).map fun j => (i + j, ((l[j]?).map fun e => den e.2.1).getD undef))
  | [], i => by simp [Instr.findNow]
  | e :: l, i => by
    simp only [List.map_cons, Instr.findNow, mkEntry, Instr.sameNow, if_true]
    by_cases h : (k == e.1) = true
    · simp [h, List.findIdx?_cons]
    · simp only [h]
      rw [findNow_map k l (i + 1)]
      simp only [List.findIdx?_cons, h, Bool.false_eq_true, if_false, Option.map_map]
      cases l.findIdx? (fun e => k == e.1) with
      | none => rfl
      | some j => simp; omega
theorem find_some {l : List (Int × SV × Nat)} {k : Int} {j : Nat} (h : l.findIdx? (fun e => k == e.1) = some j) : ∃ x n, l[j]? = some (k, x, n) := by
  rw [List.findIdx?_eq_some_iff_getElem] at h
  obtain ⟨hj, h1, _⟩ := h
  rcases hl : l[j] with ⟨k', x, n⟩
  have : k = k' := by simpa [hl] using h1
  subst this
  exact ⟨x, n, by rw [List.getElem?_eq_getElem hj, hl]⟩
theorem find_none {l : List (Int × SV × Nat)} {k : Int} (h : l.findIdx? (fun e => k == e.1) = none) : ∀ x n, (k, x, n) ∉ l := by
  intro x n hm
  rw [List.findIdx?_eq_none_iff] at h
  have := h _ hm
  simp at this
theorem run_checkKey_int {P : Program} {kt : TypeId} (hk : P.underlying kt = some (.int .i64)) (e : Bool) (k : Int) (w : World) (n : Nat) : (Instr.checkKey e (n + 1) kt (.int .i64 k)).run P w = .ok () w := by
  simp only [Instr.checkKey, Sem.run_bind, run_underlying hk, Result.andThen_ok, Sem.run_pure]
theorem sameBits_int (k : Int) (n : Nat) : Instr.sameBits n (.int .i64 k) (.int .i64 k) = true := by
  cases n <;> simp [Instr.sameBits]
def evLookup (tt : List (Nat × TI)) (hp : Hp) (t : TypeId) (x ix : SV) (ok : Bool) : Ev :=
  match lookT tt t, ix with
  | some { d := .map kt et, .. }, .v (.int .i64 k) => match lookT tt kt, lookT tt et, x with
    | some { d := .int .i64, .. }, some te, .mp i b => match hp[i]? with
      | some (b', _, .imap m) => match m k with
        | some y => some ([b = b'], if ok then .tu [y, .v (.bool true)] else y)
        | none => some ([b = b'], if ok then .tu [.v te.zero, .v (.bool false)] else .v te.zero)
      | some (b', _, .iset p) => if ok then none else match te.zero with
        | .bool false => some ([b = b'], .v (.bool (p k)))
        | _ => none
      | _ => none
    | _, _, _ => none
  | _, _ => none
theorem run_lookup {P : Program} {t kt et : TypeId} {te : TI} {b : Nat} {es : Array MapEntry} {clk : Nat} {m : Int → Option SV} {w : World} (ht : P.underlying t = some (.map kt et)) (hk : P.underlying kt = some (.int .i64)) (he : te.ok P et)
    (hb : w.heap[b]? = some (.map es clk)) (hm : IMap es clk m) (k : Int) (ok : Bool) :
    (Instr.lookup t (.map (some b)) (.int .i64 k) ok).run P w = .ok (match m k with
      | some y => if ok then .tuple #[den y, .bool true] else den y
      | none => if ok then .tuple #[te.zero, .bool false] else te.zero) w := by
  obtain ⟨l, rfl, h1, h2, h3, h4⟩ := hm
  have hck : ∀ e : Bool, (Instr.checkKey e 10000 kt (.int .i64 k)).run P w = .ok () w := fun e => run_checkKey_int hk e k w 9999
  have hgo : (getObj b).run P w = .ok (.map (l.map mkEntry).toArray clk) w := by simp [getObj, Sem.run, hb]
  have hfk : (Instr.findKey kt (.int .i64 k) (l.map mkEntry)).run P w = .ok ((l.findIdx? (fun e => k == e.1)).map fun j => (0 + j, ((l[j]?).map fun e => den e.2.1).getD undef)) w := by
    simp only [Instr.findKey, Sem.run_bind, run_underlying hk, Result.andThen_ok, findNow_map, Sem.run_pure]
  simp only [Instr.lookup, Sem.run_bind, run_underlying ht, Result.andThen_ok, hgo, Sem.run_pure, hck, hfk]
  cases hf : l.findIdx? (fun e => k == e.1) with
  | none =>
    have hmk : m k = none := by
      cases hx : m k with
      | none => rfl
      | some x => obtain ⟨n, hn⟩ := (h4 k x).1 hx; exact absurd hn (find_none hf x n)
    simp only [Option.map_none, Sem.run_bind, run_zeroValue' he, Result.andThen_ok, Sem.run_pure, hmk]
    try (cases ok <;> rfl)
  | some j =>
    obtain ⟨x, n, hx⟩ := find_some hf
    have hmk : m k = some x := (h4 k x).2 ⟨n, List.mem_of_getElem? hx⟩
    simp only [Option.map_some, hmk, hx, Option.getD_some]
    cases ok <;> rfl
theorem evLookup_sound {P : Program} {tt : List (Nat × TI)} (htt : TTok P tt) {hp : Hp} {w : World} (hh : HpRep hp w) {t : TypeId} {x ix y : SV} {ok : Bool} {obs : List Prop}
    (h : evLookup tt hp t x ix ok = some (obs, y)) (ho : ∀ p ∈ obs, p) : (Instr.lookup t (den x) (den ix) ok).run P w = .ok (den y) w := by
  unfold evLookup at h
  split at h
  · rename_i kt et _ _ _ k hti
    have hu := (htt _ _ hti).map rfl
    split at h
    · rename_i _ _ _ te i b hkt het
      have hk := (htt _ _ hkt).int rfl
      have he := htt _ _ het
      split at h
      · rename_i b' mm m hi
        obtain ⟨es, clk, hb, hm⟩ := hh i b' mm _ hi
        have hr := run_lookup (w := w) hu hk he hb hm k ok
        split at h
        · rename_i z hz
          cases h
          have e : b = b' := ho _ (by simp)
          subst e
          rw [hz] at hr
          simp only [den, hr]
          cases ok <;> simp [den, denL]
        · rename_i hz
          cases h
          have e : b = b' := ho _ (by simp)
          subst e
          rw [hz] at hr
          simp only [den, hr]
          cases ok <;> simp [den, denL]
      · rename_i b' mm p hi
        obtain ⟨es, clk, hb, hm⟩ := hh i b' mm _ hi
        have hr := run_lookup (w := w) hu hk he hb hm k ok
        split at h
        · cases h
        rename_i hok
        have hok' : ok = false := by simpa using hok
        subst hok'
        split at h
        · rename_i hz
          cases h
          have e : b = b' := ho _ (by simp)
          subst e
          simp only [den, hr, hz, setFn]
          cases hp : p k <;> simp [den]
        · cases h
      · cases h
    · cases h
  · cases h
def updFn (m : Int → Option SV) (k : Int) (x : SV) : Int → Option SV := fun j => if j = k then some x else m j
def addFn (p : Int → Bool) (k : Int) : Int → Bool := fun j => j == k || p j
theorem IMap.push {l : List (Int × SV × Nat)} {clk : Nat} {m : Int → Option SV} {k : Int} {x : SV} (h1 : (l.map (·.1)).Nodup) (h2 : (l.map (·.2.2)).Nodup) (h3 : ∀ e ∈ l, e.2.2 < clk) (h4 : ∀ k x, m k = some x ↔ ∃ n, (k, x, n) ∈ l)
    (hn : ∀ x n, (k, x, n) ∉ l) : IMap ((l.map mkEntry).toArray.push { key := .int .i64 k, val := den x, born := clk }) (clk + 1) (updFn m k x) := by
  refine ⟨l ++ [(k, x, clk)], by simp [mkEntry], ?_, ?_, ?_, ?_⟩
  · rw [List.map_append, List.nodup_append]
    refine ⟨h1, by simp, fun a ha b hb hab => ?_⟩
    simp only [List.map_cons, List.map_nil, List.mem_singleton] at hb
    obtain ⟨e, he, rfl⟩ := List.mem_map.1 ha
    subst hb
    exact hn e.2.1 e.2.2 (by rw [← hab]; exact he)
  · rw [List.map_append, List.nodup_append]
    refine ⟨h2, by simp, fun a ha b hb hab => ?_⟩
    simp only [List.map_cons, List.map_nil, List.mem_singleton] at hb
    obtain ⟨e, he, rfl⟩ := List.mem_map.1 ha
    have := h3 e he
    omega
  · intro e he
    rcases List.mem_append.1 he with he | he
    · have := h3 e he; omega
    · simp only [List.mem_singleton] at he; subst he; simp
  · intro j y
    simp only [updFn, List.mem_append, List.mem_singleton]
    by_cases hj : j = k
    · subst hj
      simp only [if_true, Option.some.injEq]
      constructor
      · rintro rfl; exact ⟨clk, .inr rfl⟩
      · rintro ⟨n, hy | hy⟩
        · exact absurd hy (hn y n)
        · cases hy; rfl
    · simp only [if_neg hj, h4]
      constructor
      · rintro ⟨n, hy⟩; exact ⟨n, .inl hy⟩
      · rintro ⟨n, hy | hy⟩
        · exact ⟨n, hy⟩
        · cases hy; exact absurd rfl hj
theorem IMap.set {l : List (Int × SV × Nat)} {clk : Nat} {m : Int → Option SV} {k : Int} {x y : SV} {j n : Nat} (h1 : (l.map (·.1)).Nodup) (h2 : (l.map (·.2.2)).Nodup) (h3 : ∀ e ∈ l, e.2.2 < clk) (h4 : ∀ k x, m k = some x ↔ ∃ n, (k, x, n) ∈ l)
    (hj : l[j]? = some (k, y, n)) : IMap ((l.map mkEntry).toArray.modify j fun e => { e with key := .int .i64 k, val := den x }) clk (updFn m k x) := by
  have hlt : j < l.length := (List.getElem?_eq_some_iff.1 hj).1
  have hke : l.map (·.1) = (l.set j (k, x, n)).map (·.1) := by
    apply List.ext_getElem?
    intro i
    simp only [List.getElem?_map]
    by_cases hij : j = i
    · subst hij; rw [hj, List.getElem?_set_self hlt]; rfl
    · rw [List.getElem?_set_ne hij]
  have hbe : l.map (·.2.2) = (l.set j (k, x, n)).map (·.2.2) := by
    apply List.ext_getElem?
    intro i
    simp only [List.getElem?_map]
    by_cases hij : j = i
    · subst hij; rw [hj, List.getElem?_set_self hlt]; rfl
    · rw [List.getElem?_set_ne hij]
  refine ⟨l.set j (k, x, n), ?_, by rw [← hke]; exact h1, by rw [← hbe]; exact h2, ?_, ?_⟩
  · apply Array.ext_getElem?
    intro i
    rw [Array.getElem?_modify]
    simp only [List.getElem?_toArray, List.getElem?_map]
    by_cases hij : j = i
    · subst hij; rw [if_pos rfl, hj, List.getElem?_set_self hlt]; rfl
    · rw [if_neg hij, List.getElem?_set_ne hij]
  · intro e he
    obtain ⟨i, hi⟩ := List.getElem?_of_mem he
    by_cases hij : j = i
    · subst hij; rw [List.getElem?_set_self hlt] at hi; cases hi; exact h3 (k, y, n) (List.mem_of_getElem? hj)
    · rw [List.getElem?_set_ne hij] at hi; exact h3 e (List.mem_of_getElem? hi)
  · intro i z
    have hmem : ∀ e : Int × SV × Nat, e ∈ l.set j (k, x, n) ↔ (e = (k, x, n) ∨ (e ∈ l ∧ e.1 ≠ k)) := by
      intro e
      constructor
      · intro he
        obtain ⟨i', hi⟩ := List.getElem?_of_mem he
        by_cases hij : j = i'
        · subst hij; rw [List.getElem?_set_self hlt] at hi; cases hi; exact .inl rfl
        · rw [List.getElem?_set_ne hij] at hi
          refine .inr ⟨List.mem_of_getElem? hi, fun hk => hij ?_⟩
          have a1 : (l.map (·.1))[j]? = some k := by rw [List.getElem?_map, hj]; rfl
          have a2 : (l.map (·.1))[i']? = some k := by rw [List.getElem?_map, hi, ← hk]; rfl
          exact (List.getElem?_inj (by simpa using hlt) h1).1 (a1.trans a2.symm)
      · rintro (rfl | ⟨he, hk⟩)
        · exact List.mem_of_getElem? (List.getElem?_set_self hlt)
        · obtain ⟨i', hi⟩ := List.getElem?_of_mem he
          have hij : j ≠ i' := by
            rintro rfl
            rw [hj] at hi; cases hi; exact hk rfl
          exact List.mem_of_getElem? (by rw [List.getElem?_set_ne hij]; exact hi)
    simp only [updFn, hmem]
    by_cases hi : i = k
    · subst hi
      simp only [if_true, Option.some.injEq]
      constructor
      · rintro rfl; exact ⟨n, .inl rfl⟩
      · rintro ⟨n', hz | ⟨_, hz⟩⟩
        · cases hz; rfl
        · exact absurd rfl hz
    · simp only [if_neg hi, h4]
      constructor
      · rintro ⟨n', hz⟩; exact ⟨n', .inr ⟨hz, hi⟩⟩
      · rintro ⟨n', hz | ⟨hz, _⟩⟩
        · cases hz; exact absurd rfl hi
        · exact ⟨n', hz⟩
theorem run_mapUpdate {P : Program} {t kt et : TypeId} {b : Nat} {es : Array MapEntry} {clk : Nat} {m : Int → Option SV} {w : World} (ht : P.underlying t = some (.map kt et)) (hk : P.underlying kt = some (.int .i64))
    (hb : w.heap[b]? = some (.map es clk)) (hm : IMap es clk m) (k : Int) (x : SV) :
    ∃ es' clk', (Instr.mapUpdate t (.map (some b)) (.int .i64 k) (den x)).run P w = .ok () (putBlk w b (.map es' clk')) ∧ IMap es' clk' (updFn m k x) := by
  obtain ⟨l, rfl, h1, h2, h3, h4⟩ := hm
  have hck : (Instr.checkKey false 10000 kt (.int .i64 k)).run P w = .ok () w := run_checkKey_int hk false k w 9999
  have hgo : (getObj b).run P w = .ok (.map (l.map mkEntry).toArray clk) w := by simp [getObj, Sem.run, hb]
  have hset : ∀ o, (setObj b o).run P w = .ok () (putBlk w b o) := fun o => by simp [setObj, Sem.run, hb, putBlk]
  have hfk : (Instr.findKey kt (.int .i64 k) (l.map mkEntry)).run P w = .ok ((l.findIdx? (fun e => k == e.1)).map fun j => (0 + j, ((l[j]?).map fun e => den e.2.1).getD undef)) w := by
    simp only [Instr.findKey, Sem.run_bind, run_underlying hk, Result.andThen_ok, findNow_map, Sem.run_pure]
  cases hf : l.findIdx? (fun e => k == e.1) with
  | none =>
    refine ⟨_, _, ?_, IMap.push h1 h2 h3 h4 (find_none hf)⟩
    simp only [Instr.mapUpdate, Sem.run_bind, run_underlying ht, Result.andThen_ok, hgo, hck, hfk, hf, Option.map_none, hset]
  | some j =>
    obtain ⟨y, n, hx⟩ := find_some hf
    refine ⟨_, _, ?_, IMap.set h1 h2 h3 h4 hx⟩
    have hs : Instr.sameBits 10000 (.int .i64 k) (.int .i64 k) = true := sameBits_int k 10000
    have hks : (Instr.keyThatStays (.int .i64 k) (.int .i64 k)).run P w = .ok (.int .i64 k) w := by
      simp only [Instr.keyThatStays, hs, if_true, Sem.run_pure]
    have hg : ((l.map mkEntry).toArray[j]?.map (·.key)).getD (.int .i64 k) = .int .i64 k := by
      simp [hx, mkEntry]
    simp only [Instr.mapUpdate, Sem.run_bind, run_underlying ht, Result.andThen_ok, hgo, hck, hfk, hf, Option.map_some, Nat.zero_add, hg, hks, hset]
theorem setFn_add (p : Int → Bool) (k : Int) : setFn (addFn p k) = updFn (setFn p) k (.v (.bool true)) := by
  funext j
  simp only [setFn, addFn, updFn]
  by_cases h : j = k <;> simp [h]
theorem IMap.empty : IMap #[] 0 (fun _ => none) := ⟨[], rfl, by simp, by simp, by simp, by simp⟩
end Go.SX
namespace Go.SX
open Go
def u8s (row : Nat → List SV) (base len : Nat) : List Int := (List.range len).map fun j => match row (base + j) with
  | [.v (.int _ n)] => n
  | _ => 0
def strOf (ns : List Int) : ByteArray := ns.foldl (fun r n => r.push (UInt8.ofNat n.toNat)) ByteArray.empty
def IsU8 (l : List SV) : Prop := ∃ n, l = [.v (.int .u8 n)]
def evConvH (tt : List (Nat × TI)) (hp : Hp) (s d : TypeId) (y : SV) : Ev :=
  match y with
  | .sl i b o0 base len _ sz => match lookT tt s, lookT tt d with
    | some { d := .slice e, .. }, some { d := .str, .. } => match lookT tt e, hp[i]? with
      | some { d := .int .u8, .. }, some (b', _, .arr o1 N row sz' _ _) =>
        if sz = 1 ∧ sz' = 1 then some ([b = b', o0 = o1, base + len ≤ N, ∀ j, j < len → IsU8 (row (base + j))], .v (.string (strOf (u8s row base len)))) else none
      | _, _ => none
    | _, _ => none
  | .v (.slice _ 0 _) => match lookT tt s, lookT tt d with
    | some { d := .slice e, .. }, some { d := .str, .. } => match lookT tt e with
      | some { d := .int .u8, .. } => some ([], .v (.string .empty))
      | _ => none
    | _, _ => none
  | .v (.slice none _ _) => match lookT tt s, lookT tt d with
    | some { d := .slice e, .. }, some { d := .str, .. } => match lookT tt e with
      | some { d := .int .u8, .. } => some ([], .v (.string .empty))
      | _ => none
    | _, _ => none
  | y => (evConv tt s d y).map fun z => ([], z)
theorem evConvH_sound {P : Program} {tt : List (Nat × TI)} (htt : TTok P tt) {hp : Hp} {w : World} (hh : HpRep hp w) {s d : TypeId} {y x : SV} {obs : List Prop} (h : evConvH tt hp s d y = some (obs, x)) (ho : ∀ p ∈ obs, p) :
    (convert s d (den y)).run P w = .ok (den x) w := by
  unfold evConvH at h
  split at h
  · rename_i i b o0 base len cap sz
    split at h
    · rename_i e _ _ _ _ _ _ hs hd
      split at h
      · rename_i _ _ _ b' m o1 N row sz' t fz he hi
        split at h
        · rename_i hc
          obtain ⟨rfl, rfl⟩ := hc
          cases h
          obtain rfl := ho (b = b') (by simp)
          obtain rfl := ho (o0 = o1) (by simp)
          have h1 := ho (base + len ≤ N) (by simp)
          have h2 := ho (∀ j, j < len → IsU8 (row (base + j))) (by simp)
          obtain ⟨c, hb, hrep⟩ := hh _ _ _ _ hi
          simp only [den]
          rw [run_convert_bytes_string _ _ _ _ _ _ _ ((htt _ _ hs).slice rfl) ((htt _ _ he).int rfl) ((htt _ _ hd).str rfl)]
          rw [run_bytesToString w _ len cap (u8s row base len)]
          · rfl
          have hl : (((u8s row base len).map (Value.int .u8))).length = len := by simp [u8s]
          have := run_loadCells (P := P) (w := w) (b := b) (o := o0 + base * 1) ((u8s row base len).map (Value.int .u8)) (fun j hj => by
            rw [hl] at hj
            obtain ⟨n, hn⟩ := h2 j hj
            have h4 := (hrep.2 (base + j) (by omega)).2 0 (by omega)
            rw [hn] at h4
            simp only [World.cell?, hb]
            simp [denL, den] at h4
            simp [u8s, hj, hn]
            rw [← h4]; congr 1; omega)
          rw [hl] at this
          exact this
        · cases h
      · cases h
    · cases h
  · rename_i ad c
    split at h
    · rename_i e _ _ _ _ _ _ hs hd
      split at h
      · rename_i he
        cases h
        simp only [den]
        rw [run_convert_bytes_string _ _ _ _ _ _ _ ((htt _ _ hs).slice rfl) ((htt _ _ he).int rfl) ((htt _ _ hd).str rfl)]
        cases ad <;> simp [Conv.bytesToString, loadCells, loadCellsFrom]
      · cases h
    · cases h
  · rename_i n c
    split at h
    · rename_i e _ _ _ _ _ _ hs hd
      split at h
      · rename_i he
        cases h
        simp only [den]
        rw [run_convert_bytes_string _ _ _ _ _ _ _ ((htt _ _ hs).slice rfl) ((htt _ _ he).int rfl) ((htt _ _ hd).str rfl)]
        simp [Conv.bytesToString]
      · cases h
    · cases h
  · simp only [Option.map_eq_some_iff, Prod.mk.injEq] at h
    obtain ⟨u, hu, _, rfl⟩ := h
    exact evConv_sound htt hu w
def isCells : Option (Nat × Bool × SO) → Option Nat
  | some (b, _, .cells _ _) => some b
  | _ => none
def evPtrEq (tt : List (Nat × TI)) (hp : Hp) (op : BinOp) (t : TypeId) (i b o j b' o' : Nat) : Ev :=
  match lookT tt t with
  | some { d := .ptr e, .. } => match lookT tt e, isCells hp[i]?, isCells hp[j]? with
    | some te, some bi, some bj =>
      if te.sz ≠ 0 then match op with
        | .eql => some ([b = bi, b' = bj], .v (.bool (decide (b = b' ∧ o = o'))))
        | .neq => some ([b = bi, b' = bj], .v (.bool (!decide (b = b' ∧ o = o'))))
        | _ => none
      else none
    | _, _, _ => none
  | _ => none
theorem isCells_rep {hp : Hp} {w : World} (hh : HpRep hp w) {i b : Nat} (h : isCells hp[i]? = some b) : ∃ c t, w.heap[b]? = some (.cells c t (0, 0)) := by
  unfold isCells at h
  split at h
  · rename_i b' m l t hi
    cases h
    exact ⟨_, _, hh _ _ _ _ hi⟩
  · cases h
theorem evPtrEq_sound {P : Program} {tt : List (Nat × TI)} (htt : TTok P tt) {hp : Hp} {w : World} (hh : HpRep hp w) {op : BinOp} {t : TypeId} {i b o j b' o' : Nat} {z : SV} {obs : List Prop}
    (h : evPtrEq tt hp op t i b o j b' o' = some (obs, z)) (ho : ∀ p ∈ obs, p) (a c : Operand) :
    (do eqGuard op t a c (.pointer (some ⟨b, o, none⟩)) (.pointer (some ⟨b', o', none⟩)); binOp op t (.pointer (some ⟨b, o, none⟩)) (.pointer (some ⟨b', o', none⟩)) : Sem Value).run P w = .ok (den z) w := by
  unfold evPtrEq at h
  split at h
  · rename_i e _ _ _ hti
    split at h
    · rename_i te bi bj hte hi hj
      split at h
      · rename_i hsz
        have hu := (htt _ _ hti).ptr rfl
        have key : b = bi → b' = bj → (Op.equal t (.pointer (some ⟨b, o, none⟩)) (.pointer (some ⟨b', o', none⟩))).run P w = .ok (decide (b = b' ∧ o = o')) w := by
          rintro rfl rfl
          refine run_equal fun d => ?_
          obtain ⟨c1, t1, h1⟩ := isCells_rep hh hi
          obtain ⟨c2, t2, h2⟩ := isCells_rep hh hj
          have hz := run_sizeOf' (w := w) (htt _ _ hte)
          simp only [Op.equalIn, Sem.run_bind, run_underlying hu, Result.andThen_ok, hz, if_pos hsz]
          by_cases he : b = b' ∧ o = o'
          · obtain ⟨rfl, rfl⟩ := he
            rw [run_sameAddr_same]; simp
          · rw [run_sameAddr_other (w := w) (a := ⟨b, o, none⟩) (b := ⟨b', o', none⟩) (by simpa using he) h1 h2]; simp [he]
        simp only [eqGuard_at_pointer, pure_bind]
        split at h
        · cases h
          simp only [binOp, Sem.run_bind, key (ho _ (by simp)) (ho _ (by simp)), Result.andThen_ok, Sem.run_pure, den]
        · cases h
          simp only [binOp, Sem.run_bind, key (ho _ (by simp)) (ho _ (by simp)), Result.andThen_ok, Sem.run_pure, den]
        · cases h
      · cases h
    · cases h
  · cases h
end Go.SX
namespace Go.SX
open Go
def optOpd (st : St) (c : Nat) : Option Operand → Option (Option SV)
  | none => some none
  | some x => match opd st c x with
    | some s => some (some s)
    | none => none
theorem optOpd_sound {st : St} {a : Act} {c : Nat} (hr : EnvRep st a) (hc : cnd st.cs c = true) {x : Option Operand} {s : Option SV} (h : optOpd st c x = some s) : x.map a.eval = s.map den := by
  cases x with
  | none => cases h; rfl
  | some y =>
    simp only [optOpd] at h
    split at h
    · rename_i z hz; cases h; simp [opd_sound hr hc hz]
    · cases h
def evNil : SV → Option SV
  | .ptr i b o => some (.ptr i b o)
  | .el i b o0 idx sz sub => some (.el i b o0 idx sz sub)
  | .v (.pointer (some a)) => some (.v (.pointer (some a)))
  | .fn (.func f) l r => some (.fn (.func f) l r)
  | _ => none
def evUn (nw : Bool) (op : UnOp) : SV → Ev
  | .v (.bool b) => match op with
    | .not => some ([], .v (.bool (!b)))
    | _ => none
  | .v (.int k n) => match op with
    | .neg => some (arith nw k (0 - n))
    | .xor => some ([], .v (.int k (bitv .xor k (if k.signed then -1 else k.max) n)))
    | _ => none
  | _ => none
def evIndex (tt : List (Nat × TI)) (t : TypeId) (x ix : SV) : Ev :=
  match x, ix with
  | .v (.string s), .v (.int _ n) => match lookT tt t with
    | some { d := .str, .. } => some ([0 ≤ n, n < (s.size : Int)], .v (.int .u8 (s.data.getD n.toNat 0).toNat))
    | _ => none
  | _, _ => none
def pickOpd (st : St) (c tc pc : Nat) (want : Bool) (x : Operand) : Option SV :=
  match opd st c x with
  | some s => some s
  | none => match x with
    | .tmp t => match look st.env t with
      | some (ci, s) => if st.ks.any (fun r => r.tj == tc && r.want == want && r.ci == ci && r.pi == pc) then some s else none
      | none => none
    | _ => none
def lookB : List (Nat × Bool) → Nat → Option Bool
  | [], _ => none
  | (u, d) :: r, t => if u == t then some d else lookB r t
def evPick (st : St) (c tc : Nat) (a b : Operand) : Ev :=
  match look st.env tc with
  | some (pc, .v (.bool B)) => if pc == 0 || pc == c then (match lookB st.gd tc with
    | some true => (opd st c a).map fun x => ([B = true], x)
    | some false => (opd st c b).map fun x => ([B = false], x)
    | none => match a, b with
    | a, .const (.bool false) => match pickOpd st c tc pc true a with
      | some (.v (.bool x)) => some ([], .v (.bool (B && x)))
      | _ => none
    | .const (.bool true), b => match pickOpd st c tc pc false b with
      | some (.v (.bool y)) => some ([], .v (.bool (B || y)))
      | _ => none
    | _, _ => none) else none
  | _ => none
theorem pickOpd_sound {st : St} {a : Act} {c tc pc : Nat} {want B : Bool} {x : Operand} {s : SV} (hr : EnvRep st a) (hc : cnd st.cs c = true) (hl : look st.env tc = some (pc, .v (.bool B)))
    (hpc : cnd st.cs pc = true) (h : pickOpd st c tc pc want x = some s) (hB : B = want) : a.eval x = den s := by
  unfold pickOpd at h
  split at h
  · rename_i s' hs; cases h; exact opd_sound hr hc hs
  · split at h
    · rename_i t hx
      split at h
      · rename_i ci s' hl'
        split at h
        · rename_i hany
          cases h
          simp only [List.any_eq_true, Bool.and_eq_true, beq_iff_eq] at hany
          obtain ⟨r, hmem, ⟨⟨h1, h2⟩, h3⟩, h4⟩ := hany
          obtain ⟨_, e1, e2⟩ := hr.2.2.2 r hmem
          have e3 := (hr.2.2.1 _ _ _ hl).2
          rw [h1, e3, h4, if_pos hpc, if_pos hpc] at e1
          simp only [den, Option.some.injEq, Value.bool.injEq] at e1
          have hci : cnd st.cs ci = true := by rw [← h3, e2, h4, hpc, ← e1, hB, h2]; simp
          have e4 := (hr.2.2.1 _ _ _ hl').2
          rw [if_pos hci] at e4
          simp [Act.eval, Array.getD_eq_getD_getElem?, e4]
        · cases h
      · cases h
    · cases h
def TD.isIface : TD → Bool
  | .iface => true
  | _ => false
def evOp (nw : Bool) (tt : List (Nat × TI)) (st : St) (hp : Hp) (c : Nat) : Op → Ev
  | .move x => (opd st c x).map fun y => ([], y)
  | .assign x => (opd st c x).map fun y => ([], y)
  | .pick (.tmp tc) a b => evPick st c tc a b
  | .nilCheck x => match opd st c x with
    | some y => (evNil y).map fun z => ([], z)
    | none => none
  | .unOp op _ x => match opd st c x with
    | some y => evUn nw op y
    | none => none
  | .binOp op t x y _ => match opd st c x, opd st c y with
    | some (.ptr i b o), some (.ptr j b' o') => evPtrEq tt hp op t i b o j b' o'
    | some u, some v => evBin nw tt op t u v
    | _, _ => none
  | .fieldAddr t x f => match opd st c x with
    | some y => (evFieldAddr tt t y f).map fun z => ([], z)
    | none => none
  | .field t x f => match opd st c x with
    | some y => (evField tt t y f).map fun z => ([], z)
    | none => none
  | .indexAddr t x ix => match opd st c x, opd st c ix with
    | some y, some z => evIndexAddr tt hp t y z
    | _, _ => none
  | .index t x ix => match opd st c x, opd st c ix with
    | some y, some z => evIndex tt t y z
    | _, _ => none
  | .load t x => match opd st c x with
    | some y => evLoad tt hp t y
    | none => none
  | .extract x i => match opd st c x with
    | some (.tu l) => (l[i]?).map fun z => ([], z)
    | _ => none
  | .build t parts => match opds st c (parts.toList.map (·.2)) with
    | some l => (evBuild tt t ((parts.toList.map (·.1)).zip l)).map fun z => ([], z)
    | none => none
  | .convert s d x => match opd st c x with
    | some y => evConvH tt hp s d y
    | none => none
  | .slice t x lo hi none => match opd st c x, optOpd st c lo, optOpd st c hi with
    | some y, some l, some h => evSlice tt t y l h
    | _, _, _ => none
  | .call { callee := .builtin b, args, argTypes } => match opds st c args.toList with
    | some l => (evBuiltin tt b argTypes.toList l).map fun z => ([], z)
    | none => none
  | .makeFunc f first cap => match opds st c first.toList, opds st c cap.toList with
    | some l, some r => some ([], .fn f l r)
    | _, _ => none
  | .makeInterface t x => match opd st c x, lookT tt t with
    | some y, some ti => if ti.d.isIface then none else some ([], .v (.iface t (den y)))
    | _, _ => none
  | .lookup t x ix ok => match opd st c x, opd st c ix with
    | some y, some z => evLookup tt hp t y z ok
    | _, _ => none
  | _ => none
theorem zip_den {l : List (Nat × Operand)} {st : St} {a : Act} {c : Nat} (hr : EnvRep st a) (hc : cnd st.cs c = true) {r : List SV} (h : opds st c (l.map (·.2)) = some r) :
    (l.map fun (i, x) => (i, a.eval x)) = ((l.map (·.1)).zip r).map fun p => (p.1, den p.2) := by
  induction l generalizing r with
  | nil => cases h; rfl
  | cons p l ih =>
    simp only [List.map_cons, opds] at h
    split at h
    · rename_i s r' h1 h2
      cases h
      simp [ih h2, opd_sound hr hc h1]
    · cases h
theorem evOp_sound {P : Program} {tt : List (Nat × TI)} (htt : TTok P tt) {nw : Bool} {st : St} {hp : Hp} {c : Nat} {o : Oper} {obs : List Prop} {x : SV} {a : Act} {w : World}
    (he : EnvRep st a) (hc : cnd st.cs c = true) (hh : HpRep hp w) (h : evOp nw tt st hp c o.op = some (obs, x)) (ho : ∀ p ∈ obs, p) : (execOp a.eval o).run P w = .ok (.value (den x)) w := by
  unfold evOp at h
  split at h
  · rename_i y hop
    simp only [Option.map_eq_some_iff, Prod.mk.injEq] at h
    obtain ⟨z, hz, _, rfl⟩ := h
    simp [execOp, hop, opd_sound he hc hz]
  · rename_i y hop
    simp only [Option.map_eq_some_iff, Prod.mk.injEq] at h
    obtain ⟨z, hz, _, rfl⟩ := h
    simp [execOp, hop, opd_sound he hc hz]
  · rename_i tc y z hop
    unfold evPick at h
    split at h
    · rename_i pc B hl
      split at h
      · rename_i hpc
        have hpc' : cnd st.cs pc = true := by
          simp only [Bool.or_eq_true, beq_iff_eq] at hpc
          rcases hpc with rfl | rfl
          · rfl
          · exact hc
        have e0 := (he.2.2.1 _ _ _ hl).2
        rw [if_pos hpc'] at e0
        have e1 : a.eval (.tmp tc) = .bool B := by simp [Act.eval, Array.getD_eq_getD_getElem?, e0, den]
        split at h
        · simp only [Option.map_eq_some_iff, Prod.mk.injEq] at h
          obtain ⟨u, hu, h1, rfl⟩ := h
          subst h1
          have hB : B = true := ho _ (by simp)
          simp [execOp, hop, e1, asBool, hB, opd_sound he hc hu]
        · simp only [Option.map_eq_some_iff, Prod.mk.injEq] at h
          obtain ⟨u, hu, h1, rfl⟩ := h
          subst h1
          have hB : B = false := ho _ (by simp)
          simp [execOp, hop, e1, asBool, hB, opd_sound he hc hu]
        split at h
        · split at h
          · rename_i x' hx
            cases h
            have := fun hB => pickOpd_sound he hc hl hpc' hx hB
            simp only [execOp, hop, e1, asBool, Sem.run_bind, Sem.run_pure, Result.andThen_ok]
            cases B
            · simp [Act.eval, den]
            · simp [this rfl, den]
          · cases h
        · split at h
          · rename_i x' hx
            cases h
            have := fun hB => pickOpd_sound he hc hl hpc' hx hB
            simp only [execOp, hop, e1, asBool, Sem.run_bind, Sem.run_pure, Result.andThen_ok]
            cases B
            · simp [this rfl, den]
            · simp [Act.eval, den]
          · cases h
        · cases h
      · cases h
    · cases h
  · rename_i y hop
    split at h
    · rename_i z hz
      simp only [Option.map_eq_some_iff, Prod.mk.injEq] at h
      obtain ⟨u, hu, _, rfl⟩ := h
      unfold evNil at hu
      split at hu <;> first | (cases hu; done) | (cases hu; simp [execOp, hop, opd_sound he hc hz, den])
    · cases h
  · rename_i op _ y hop
    split at h
    · rename_i z hz
      unfold evUn at h
      split at h
      · split at h
        · cases h; simp [execOp, hop, opd_sound he hc hz, den, Op.unary]
        · cases h
      · split at h
        · simp only [Option.some.injEq] at h
          rw [Prod.ext_iff] at h
          obtain ⟨h1, h2⟩ := h
          simp only [] at h1 h2
          subst h1; subst h2
          simp only [execOp, hop, opd_sound he hc hz, den, Op.unary, Op.intArith, arith_sound ho, Sem.run_bind, Sem.run_pure, Result.andThen_ok]
        · cases h; simp [execOp, hop, opd_sound he hc hz, den, Op.unary, Op.intBits, bitv]
        · cases h
      · cases h
    · cases h
  · rename_i op t y z ty hop
    split at h
    · rename_i i b o j b' o' hu hv
      have := evPtrEq_sound htt hh h ho y z
      simp only [Sem.run_bind] at this
      simp only [execOp, hop, opd_sound he hc hu, opd_sound he hc hv, den, Sem.run_bind, this, Result.andThen_ok, Sem.run_pure]
    · rename_i u v _ hu hv
      have := evBin_sound htt h ho y z w
      simp only [Sem.run_bind] at this
      simp only [execOp, hop, opd_sound he hc hu, opd_sound he hc hv, Sem.run_bind, this, Result.andThen_ok, Sem.run_pure]
    · cases h
  · rename_i t y f hop
    split at h
    · rename_i z hz
      simp only [Option.map_eq_some_iff, Prod.mk.injEq] at h
      obtain ⟨u, hu, _, rfl⟩ := h
      simp [execOp, hop, opd_sound he hc hz, evFieldAddr_sound htt hu]
    · cases h
  · rename_i t y f hop
    split at h
    · rename_i z hz
      simp only [Option.map_eq_some_iff, Prod.mk.injEq] at h
      obtain ⟨u, hu, _, rfl⟩ := h
      simp [execOp, hop, opd_sound he hc hz, evField_sound htt hu]
    · cases h
  · rename_i t y ix hop
    split at h
    · rename_i u v hu hv
      simp [execOp, hop, opd_sound he hc hu, opd_sound he hc hv, evIndexAddr_sound htt h ho]
    · cases h
  · rename_i t y ix hop
    split at h
    · rename_i u v hu hv
      unfold evIndex at h
      split at h
      · rename_i s k n
        split at h
        · rename_i hti
          cases h
          have h0 : 0 ≤ n := ho _ (by simp)
          have h1 : n < (s.size : Int) := ho _ (by simp)
          have h2 : n.toNat < s.size := by omega
          have h3 : s[n.toNat]? = some (s.data.getD n.toNat 0) := by
            have h4 : n.toNat < s.data.size := h2
            rw [getElem?_pos s n.toNat h2]
            congr 1
            rw [Array.getD_eq_getD_getElem?, Array.getElem?_eq_getElem h4]
            rfl
          simp [execOp, hop, opd_sound he hc hu, opd_sound he hc hv, den, Instr.index, asIntOf, run_underlying ((htt _ _ hti).str rfl), h0, h3]
        · cases h
      · cases h
    · cases h
  · rename_i t y hop
    split at h
    · rename_i z hz
      simp [execOp, hop, opd_sound he hc hz, evLoad_sound htt hh h ho]
    · cases h
  · rename_i y i hop
    split at h
    · rename_i l hl
      simp only [Option.map_eq_some_iff, Prod.mk.injEq] at h
      obtain ⟨u, hu, _, rfl⟩ := h
      simp [execOp, hop, opd_sound he hc hl, den, Instr.extract, denL_get?, hu]
    · cases h
  · rename_i t parts hop
    split at h
    · rename_i l hl
      simp only [Option.map_eq_some_iff, Prod.mk.injEq] at h
      obtain ⟨u, hu, _, rfl⟩ := h
      have e := zip_den he hc hl
      have := evBuild_sound htt (parts := parts.map fun (i, x) => (i, a.eval x)) (by rw [Array.toList_map]; exact e) hu w
      simp only [execOp, hop, Sem.run_bind, this, Result.andThen_ok, Sem.run_pure]
    · cases h
  · rename_i s d y hop
    split at h
    · rename_i z hz
      simp [execOp, hop, opd_sound he hc hz, evConvH_sound htt hh h ho]
    · cases h
  · rename_i t y lo hi hop
    split at h
    · rename_i u l r hu hl hr
      have := evSlice_sound htt h ho w
      simp only [execOp, hop, opd_sound he hc hu, optOpd_sound he hc hl, optOpd_sound he hc hr, Option.map_none, Sem.run_bind, this, Result.andThen_ok, Sem.run_pure]
    · cases h
  · rename_i b args ats hop
    split at h
    · rename_i l hl
      simp only [Option.map_eq_some_iff, Prod.mk.injEq] at h
      obtain ⟨u, hu, _, rfl⟩ := h
      have e : args.map a.eval = (denL l).toArray := by
        apply Array.toList_inj.1
        rw [Array.toList_map]
        exact opds_sound he hc _ _ hl
      have := evBuiltin_sound htt hu o.type (args.map fun | .const _ => true | _ => false) w
      simp only [execOp, hop, resolve, e, Sem.run_bind, Sem.run_pure, Result.andThen_ok, invoke]
      exact this
    · cases h
  · rename_i f first cap hop
    split at h
    · rename_i l r hl hr
      cases h
      have e : first.map a.eval = (denL l).toArray := by
        apply Array.toList_inj.1
        rw [Array.toList_map]
        exact opds_sound he hc _ _ hl
      have e' : cap.map a.eval = (denL r).toArray := by
        apply Array.toList_inj.1
        rw [Array.toList_map]
        exact opds_sound he hc _ _ hr
      simp [execOp, hop, Instr.makeFunc, e, e', den]
    · cases h
  · rename_i t y hop
    split at h
    · rename_i z ti hz hl
      split at h
      · cases h
      rename_i hne
      cases h
      obtain ⟨d, h1, h2⟩ := (htt _ _ hl).under
      have : (Instr.makeInterface t (den z)).run P w = .ok (.iface t (den z)) w := by
        simp only [Instr.makeInterface, Sem.run_bind, run_underlying h1, Result.andThen_ok]
        cases d <;> first | rfl | (rw [← h2] at hne; exact absurd rfl hne)
      simp [execOp, hop, opd_sound he hc hz, this, den]
    · cases h
  · rename_i t y ix ok hop
    split at h
    · rename_i u v hu hv
      simp [execOp, hop, opd_sound he hc hu, opd_sound he hc hv, evLookup_sound htt hh h ho]
    · cases h
  · cases h
end Go.SX
namespace Go.SX
open Go
section
variable {P : Program} {ops : Array Oper} {Q : Exit → Act → World → Prop}
def wpAnyG (P : Program) (ops : Array Oper) (Q : Exit → Act → World → Prop) (A : List Nat) (S T : World → Prop) : Nat → Array Bool → Act → World → Prop
  | 0, listed, a, w => Region.ready .any ops listed = [] ∧ Q .normal a w
  | fuel + 1, listed, a, w =>
    (Region.ready .any ops listed = [] → Q .normal a w) ∧
    ∀ i ∈ Region.ready .any ops listed, wpOp P ops Q i (fun a' w' => (i ∈ A → S w → S w') ∧ T w' ∧ wpAnyG P ops Q A S T fuel (listed.setIfInBounds i true) a' w') a w
theorem wpAny_of_G {A : List Nat} {S T : World → Prop} : ∀ (fuel : Nat) (listed : Array Bool) (a : Act) (w : World), wpAnyG P ops Q A S T fuel listed a w → wpAny P .any ops Q fuel listed a w
  | 0, _, _, _, h => h
  | fuel + 1, _, _, _, h => ⟨h.1, fun i hi => wpOp_mono (fun a' w' h' => wpAny_of_G fuel _ a' w' h'.2.2) (h.2 i hi)⟩
theorem wpAnyG_mono {A : List Nat} {S T T' : World → Prop} (hT : ∀ w, T' w → T w) : ∀ (fuel : Nat) (listed : Array Bool) (a : Act) (w : World), wpAnyG P ops Q A S T' fuel listed a w → wpAnyG P ops Q A S T fuel listed a w
  | 0, _, _, _, h => h
  | fuel + 1, _, _, _, h => ⟨h.1, fun i hi => wpOp_mono (fun a' w' h' => ⟨h'.1, hT _ h'.2.1, wpAnyG_mono hT fuel _ a' w' h'.2.2⟩) (h.2 i hi)⟩
def Closed (ops : Array Oper) (listed : Array Bool) : Prop :=
  ∀ (j : Nat) (o : Oper), ops[j]? = some o → listed.getD j false = true → ∀ e ∈ o.after, Region.binds .any e = true → listed.getD e.on false = true
theorem Closed.add {listed : Array Bool} (h : Closed ops listed) {i : Nat} (hi : i ∈ Region.ready .any ops listed) : Closed ops (listed.setIfInBounds i true) := by
  intro j o ho hj e he hb
  by_cases hji : j = i
  · subst hji
    obtain ⟨_, o', ho', hall⟩ := mem_ready.1 hi
    rw [ho] at ho'
    cases ho'
    exact getD_set_true (hall e he hb)
  · rw [getD_set_ne false (Ne.symm hji)] at hj
    exact getD_set_true (h j o ho hj e he hb)
theorem Closed.none : Closed ops (Array.replicate ops.size false) := by
  intro j o ho hj
  have hlt : j < ops.size := (Array.getElem?_eq_some_iff.1 ho).1
  simp [hlt] at hj
theorem wpAnyG_first {A : List Nat} {S T : World → Prop} {Si : World → Prop} {i : Nat} {oi : Oper} {v : Value} (hi : ops[i]? = some oi) (hsel : ∀ (j : Nat) (o : Oper) cs b, ops[j]? = some o → o.op ≠ .select cs b)
    (hQ : ∀ c a w, Q (.panic c) (a.put oi.dst v) w → Q (.panic c) a w)
    (hpres : ∀ j (listed : Array Bool), Closed ops listed → j ∈ Region.ready .any ops listed → listed.getD i true = false → ∀ w w', (j ∈ A → S w → S w') → T w' → Si w → Si w') :
    ∀ (fuel : Nat) (listed : Array Bool) (a : Act) (w : World),
      (∀ j oj, ops[j]? = some oj → j ≠ i → listed.getD j true = false → (∀ e ∈ oj.after, Region.binds .any e = true → e.on ≠ i) → oi.apart ops oj = true) →
      Closed ops listed → i ∈ Region.ready .any ops listed → YieldsIf P ops Si oi v a → Si w → T w →
      wpAnyG P ops Q A S T fuel (listed.setIfInBounds i true) (a.put oi.dst v) w → wpAnyG P ops Q A S T (fuel + 1) listed a w := by
  intro fuel
  induction fuel with
  | zero =>
    intro listed a w _ _ hr hy hS hTw H
    refine ⟨fun h => (by rw [h] at hr; cases hr), fun j hj => ?_⟩
    by_cases hji : j = i
    · subst hji; exact hy.wpOp hi hS ⟨fun _ h => h, hTw, H⟩
    · have := ready_mono hj hji
      rw [H.1] at this
      cases this
  | succ fuel ih =>
    intro listed a w hfree hcl hr hy hS hTw H
    refine ⟨fun h => (by rw [h] at hr; cases hr), fun j hj => ?_⟩
    by_cases hji : j = i
    · subst hji; exact hy.wpOp hi hS ⟨fun _ h => h, hTw, H⟩
    · have h1 := H.2 j (ready_mono hj hji)
      obtain ⟨hjun, oj, hoj, hall⟩ := mem_ready.1 hj
      have hnot : ∀ e ∈ oj.after, Region.binds .any e = true → e.on ≠ i := fun e he hb heq => by
        have h1 := hall e he hb
        have h0 := (mem_ready.1 hr).1
        rw [heq] at h1
        rcases Nat.lt_or_ge i listed.size with h' | h'
        · simp [h'] at h0 h1; rw [h0] at h1; cases h1
        · simp [Array.getElem?_eq_none h'] at h1
      have h2 := wpOp_putIf hoj (hfree j oj hoj hji hjun hnot) (fun cs b => hsel i oi cs b hi) (fun cs b => hsel j oj cs b hoj) hQ hy h1
      have hfree' : ∀ k ok, ops[k]? = some ok → k ≠ i → (listed.setIfInBounds j true).getD k true = false →
          (∀ e ∈ ok.after, Region.binds .any e = true → e.on ≠ i) → oi.apart ops ok = true := fun k ok hk hki hun hno => by
        refine hfree k ok hk hki ?_ hno
        by_cases hjk : j = k
        · subst hjk; exact hjun
        · rw [getD_set_ne true hjk] at hun; exact hun
      refine wpOp_mono (fun a' w' h3 => ?_) h2
      obtain ⟨h4, h5, h8, h6⟩ := h3
      have h7 : Si w' := hpres j listed hcl hj (mem_ready.1 hr).1 w w' h5 h8 hS
      exact ⟨h5, h8, ih (listed.setIfInBounds j true) a' w' hfree' (hcl.add hj) (ready_mono hr (Ne.symm hji)) h4 h7 h8 (by rw [Array.setIfInBounds_comm _ _ hji]; exact h6)⟩
def clOK (ops : Array Oper) (cl : Array Nat) : Bool :=
  (List.range ops.size).all fun j => (List.range ops.size).all fun i => !(cl.getD j 0).testBit i || match ops[j]? with
    | some o => o.after.any fun e => Region.binds .any e && decide (e.on < j) && (e.on == i || (cl.getD e.on 0).testBit i)
    | none => false
theorem cl_listed {cl : Array Nat} (h : clOK ops cl = true) {listed : Array Bool} (hc : Closed ops listed) : ∀ (j i : Nat) (o : Oper), ops[j]? = some o → i < ops.size → (cl.getD j 0).testBit i = true →
    (∀ e ∈ o.after, Region.binds .any e = true → listed.getD e.on false = true) → listed.getD i false = true := by
  intro j
  induction j using Nat.strongRecOn with
  | _ j ih =>
    intro i o ho hi ht hall
    unfold clOK at h
    rw [List.all_eq_true] at h
    have hj : j < ops.size := (Array.getElem?_eq_some_iff.1 ho).1
    have h1 := h j (List.mem_range.2 hj)
    rw [List.all_eq_true] at h1
    have h2 := h1 i (List.mem_range.2 hi)
    simp only [ht, Bool.not_true, Bool.false_or, ho] at h2
    rw [Array.any_eq_true'] at h2
    obtain ⟨e, he, h3⟩ := h2
    simp only [Bool.and_eq_true, Bool.or_eq_true, beq_iff_eq, decide_eq_true_eq] at h3
    obtain ⟨⟨h4, h5⟩, h6⟩ := h3
    have h7 := hall e he h4
    rcases h6 with rfl | h6
    · exact h7
    · have hon : e.on < ops.size := by omega
      have ho' : ops[e.on]? = some ops[e.on] := Array.getElem?_eq_getElem hon
      exact ih e.on h5 i _ ho' hi h6 (fun e' he' hb' => hc e.on _ ho' h7 e' he' hb')
def tailOK (ops : Array Oper) (N A : List Nat) : Bool :=
  clOK ops (Region.before ops) && N.all (fun i => decide (i < ops.size)) && (List.range ops.size).all fun j => A.contains j || N.all fun i => ((Region.before ops).getD j 0).testBit i
theorem tail_in {N A : List Nat} (ht : tailOK ops N A = true) {i j : Nat} (hi : i ∈ N) {listed : Array Bool} (hc : Closed ops listed) (hj : j ∈ Region.ready .any ops listed) (hun : listed.getD i true = false) : j ∈ A := by
  obtain ⟨_, o, ho, hall⟩ := mem_ready.1 hj
  simp only [tailOK, Bool.and_eq_true] at ht
  obtain ⟨⟨h0, hA⟩, h1⟩ := ht
  rw [List.all_eq_true] at h1 hA
  have h2 := h1 j (List.mem_range.2 (Array.getElem?_eq_some_iff.1 ho).1)
  simp only [Bool.or_eq_true] at h2
  rcases h2 with h2 | h2
  · simpa using h2
  · rw [List.all_eq_true] at h2
    have h3 := h2 i hi
    have hlt : i < ops.size := by simpa using hA i hi
    have h4 := cl_listed h0 hc j i o ho hlt h3 hall
    rcases Nat.lt_or_ge i listed.size with h' | h'
    · simp [h'] at h4 hun; rw [hun] at h4; cases h4
    · simp [Array.getElem?_eq_none h'] at h4
abbrev fork : Nat := 1000000
def fixed (N A : List Nat) (i k : Nat) : Bool := (k == 1 || k == 3) && (A.contains i == (k == 1)) && !N.contains i
def ordGo (ops : Array Oper) (N A : List Nat) : Nat → Nat → Array Bool → List (Nat × Nat) → Bool
  | _, r, listed, [] => (r == 0) && (Region.ready .any ops listed).isEmpty
  | n + 1, r + 1, listed, (i, k) :: l => if k == fork then (match l.take i, l.drop i with
      | (x, kx) :: lx, (y, ky) :: ly => ((Region.ready .any ops listed == [x, y] || Region.ready .any ops listed == [y, x]) && fixed N A x kx && fixed N A y ky && ordGo ops N A n r (listed.setIfInBounds x true) lx && ordGo ops N A n r (listed.setIfInBounds y true) ly) ||
        (ky == fork && fixed N A x kx && ordGo ops N A n r (listed.setIfInBounds x true) lx && (match ly.take y, ly.drop y with
          | (u, ku) :: lu, (v, kv) :: lv => (Region.ready .any ops listed).all (fun j => j == x || j == u || j == v) && (Region.ready .any ops listed).contains x && (Region.ready .any ops listed).contains u && (Region.ready .any ops listed).contains v && fixed N A u ku && fixed N A v kv && ordGo ops N A n r (listed.setIfInBounds u true) lu && ordGo ops N A n r (listed.setIfInBounds v true) lv
          | _, _ => false))
      | _, _ => false)
    else (if k == 0 || k == 2 || 4 ≤ k then (Region.ready .any ops listed).contains i && Region.free .any ops listed i else Region.ready .any ops listed == [i]) &&
    (A.contains i == (k == 0 || k == 1 || k == 2 || 4 ≤ k)) && (N.contains i == (k == 0)) && ordGo ops N A n r (listed.setIfInBounds i true) l
  | _, _, _, _ => false
def needs (ord : List (Nat × Nat)) : List Nat := (ord.filter fun p => p.2 == 0).map (·.1)
def firsts (ord : List (Nat × Nat)) : List Nat := (ord.filter fun p => p.2 == 0 || p.2 == 1 || p.2 == 2 || (4 ≤ p.2 && p.2 != fork)).map (·.1)
def ordOK (ops : Array Oper) (ord : List (Nat × Nat)) : Bool :=
  Region.noSelect ops && tailOK ops (needs ord) (firsts ord) && ordGo ops (needs ord) (firsts ord) ord.length ops.size (Array.replicate ops.size false) ord
def wpSeqD (P : Program) (all : Array Oper) (Q : Exit → Act → World → Prop) (S : World → Prop) (T : World → Prop) (l : List (Nat × Nat)) (a : Act) (w : World) : Prop :=
  match l with
  | [] => Q .normal a w
  | (i, k) :: l =>
    if k == 0 then ∃ o v, all[i]? = some o ∧ YieldsIf P all S o v a ∧ wpSeqD P all Q S T l (a.put o.dst v) w
    else if k == 1 then wpOp P all Q i (fun a' w' => S w' ∧ T w' ∧ wpSeqD P all Q S T l a' w') a w
    else if k == 2 then ∃ o v, all[i]? = some o ∧ YieldsIf P all (fun _ => True) o v a ∧ wpSeqD P all Q S T l (a.put o.dst v) w
    else if k == 3 then wpOp P all Q i (fun a' w' => T w' ∧ wpSeqD P all Q S T l a' w') a w
    else if k == fork then wpSeqD P all Q S T (l.take i) a w ∧ wpSeqD P all Q S T (l.drop i) a w
    else ∃ o v T', all[i]? = some o ∧ YieldsIf P all T' o v a ∧ T' w ∧ (∀ w, T' w → T w) ∧ wpSeqD P all Q S T' l (a.put o.dst v) w
termination_by l.length
decreasing_by all_goals (simp only [List.length_cons, List.length_take, List.length_drop]; omega)
theorem fixed_step {N A : List Nat} {S T : World → Prop} (ht : tailOK ops N A = true) {r : Nat} {listed : Array Bool} {a : Act} {w : World} {i k : Nat} {l : List (Nat × Nat)} (hcl : Closed ops listed) (hir : i ∈ Region.ready .any ops listed) (hf : fixed N A i k = true)
    (ih : ∀ a' w', ((∃ j ∈ N, (listed.setIfInBounds i true).getD j true = false) → S w') → T w' → wpSeqD P ops Q S T l a' w' → wpAnyG P ops Q A S T r (listed.setIfInBounds i true) a' w')
    (h : wpSeqD P ops Q S T ((i, k) :: l) a w) : wpOp P ops Q i (fun a' w' => (i ∈ A → S w → S w') ∧ T w' ∧ wpAnyG P ops Q A S T r (listed.setIfInBounds i true) a' w') a w := by
  simp only [fixed, Bool.and_eq_true, Bool.or_eq_true, beq_iff_eq] at hf
  obtain ⟨⟨hk, hA⟩, _⟩ := hf
  have hsub : ∀ j, (listed.setIfInBounds i true).getD j true = false → listed.getD j true = false := fun j hj => by
    by_cases hij : i = j
    · subst hij
      rcases Nat.lt_or_ge i listed.size with h' | h'
      · simp [h'] at hj
      · simp at hj
    · rwa [getD_set_ne true hij] at hj
  unfold wpSeqD at h
  rcases hk with rfl | rfl
  · simp only [Nat.reduceBEq, Bool.false_eq_true, if_false, if_true] at h
    exact wpOp_mono (fun a' w' h' => ⟨fun _ _ => h'.1, h'.2.1, ih _ _ (fun _ => h'.1) h'.2.1 h'.2.2⟩) h
  · simp only [Nat.reduceBEq, Bool.false_eq_true, if_false, if_true] at h
    have hiA : i ∉ A := by simpa using hA
    refine wpOp_mono (fun a' w' h' => ⟨fun hA => absurd hA hiA, h'.1, ih _ _ (fun ⟨m, hm, hu⟩ => ?_) h'.1 h'.2⟩) h
    exact absurd (tail_in ht hm hcl hir (hsub m hu)) hiA
theorem wpAnyG_of_seqD {N A : List Nat} {S : World → Prop} (hs : Region.noSelect ops = true) (ht : tailOK ops N A = true) (hQ : ∀ c a d v w, Q (.panic c) (a.put d v) w → Q (.panic c) a w) :
    ∀ (n r : Nat) (T : World → Prop) (l : List (Nat × Nat)) (listed : Array Bool) (a : Act) (w : World), Closed ops listed → ordGo ops N A n r listed l = true → ((∃ i ∈ N, listed.getD i true = false) → S w) → T w → wpSeqD P ops Q S T l a w → wpAnyG P ops Q A S T r listed a w := by
  intro n
  induction n with
  | zero =>
    intro r T l listed a w hcl hg hS hTw h
    cases l with
    | nil =>
      simp only [ordGo, Bool.and_eq_true, beq_iff_eq] at hg
      obtain ⟨rfl, hg⟩ := hg
      unfold wpSeqD at h
      exact ⟨by simpa using hg, h⟩
    | cons p l => cases r <;> simp [ordGo] at hg
  | succ n ihn =>
    intro r T l listed a w hcl hg hS hTw h
    cases l with
    | nil =>
      simp only [ordGo, Bool.and_eq_true, beq_iff_eq] at hg
      obtain ⟨rfl, hg⟩ := hg
      unfold wpSeqD at h
      exact ⟨by simpa using hg, h⟩
    | cons p l =>
      obtain ⟨i, k⟩ := p
      cases r with
      | zero => simp [ordGo] at hg
      | succ r =>
        by_cases hkf : k = fork
        · subst hkf
          simp only [ordGo, beq_self_eq_true, if_true] at hg
          rcases hx : l.take i with _ | ⟨⟨x, kx⟩, lx⟩
          · rw [hx] at hg
            cases hg
          rcases hy : l.drop i with _ | ⟨⟨y, ky⟩, ly⟩
          · rw [hx, hy] at hg
            cases hg
          · rw [hx, hy] at hg
            replace hg := (Bool.or_eq_true _ _).mp hg
            unfold wpSeqD at h
            simp only [fork, Nat.reduceBEq, Bool.false_eq_true, if_false, if_true] at h
            rw [hx, hy] at h
            rcases hg with hg | hg
            · simp only [Bool.and_eq_true, Bool.or_eq_true, beq_iff_eq] at hg
              obtain ⟨⟨⟨⟨h1, h2⟩, h3⟩, h4⟩, h5⟩ := hg
              have hxr : x ∈ Region.ready .any ops listed := by rcases h1 with h1 | h1 <;> rw [h1] <;> simp
              have hyr : y ∈ Region.ready .any ops listed := by rcases h1 with h1 | h1 <;> rw [h1] <;> simp
              refine ⟨fun h0 => (by rw [h0] at hxr; cases hxr), fun j hj => ?_⟩
              have hjj : j = x ∨ j = y := by rcases h1 with h1 | h1 <;> rw [h1] at hj <;> simp at hj <;> rcases hj with hj | hj <;> simp [hj]
              rcases hjj with rfl | rfl
              · exact fixed_step ht hcl hxr h2 (fun a' w' hS' hT' h' => ihn r T lx _ a' w' (hcl.add hxr) h4 hS' hT' h') h.1
              · exact fixed_step ht hcl hyr h3 (fun a' w' hS' hT' h' => ihn r T ly _ a' w' (hcl.add hyr) h5 hS' hT' h') h.2
            · simp only [Bool.and_eq_true] at hg
              obtain ⟨⟨⟨hkf, h2⟩, h4⟩, hg⟩ := hg
              obtain rfl : ky = fork := by simpa using hkf
              have hq := h.2
              unfold wpSeqD at hq
              simp only [fork, Nat.reduceBEq, Bool.false_eq_true, if_false, if_true] at hq
              rcases hu : ly.take y with _ | ⟨⟨u, ku⟩, lu⟩
              · rw [hu] at hg
                cases hg
              rcases hv : ly.drop y with _ | ⟨⟨v, kv⟩, lv⟩
              · rw [hu, hv] at hg
                cases hg
              · rw [hu, hv] at hg
                rw [hu, hv] at hq
                simp only [Bool.and_eq_true, List.contains_iff_mem, List.all_eq_true, Bool.or_eq_true, beq_iff_eq] at hg
                obtain ⟨⟨⟨⟨⟨⟨⟨h1, hxr⟩, hur⟩, hvr⟩, h3⟩, h5⟩, h6⟩, h7⟩ := hg
                refine ⟨fun h0 => (by rw [h0] at hxr; cases hxr), fun j hj => ?_⟩
                rcases h1 j hj with (rfl | rfl) | rfl
                · exact fixed_step ht hcl hxr h2 (fun a' w' hS' hT' h' => ihn r T lx _ a' w' (hcl.add hxr) h4 hS' hT' h') h.1
                · exact fixed_step ht hcl hur h3 (fun a' w' hS' hT' h' => ihn r T lu _ a' w' (hcl.add hur) h6 hS' hT' h') hq.1
                · exact fixed_step ht hcl hvr h5 (fun a' w' hS' hT' h' => ihn r T lv _ a' w' (hcl.add hvr) h7 hS' hT' h') hq.2
        have hkf' : (k == fork) = false := by simpa using hkf
        simp only [ordGo, hkf', Bool.false_eq_true, if_false, Bool.and_eq_true] at hg
        obtain ⟨⟨⟨h1, h2⟩, h2N⟩, h3⟩ := hg
        have hir : i ∈ Region.ready .any ops listed := by
          split at h1
          · simp only [Bool.and_eq_true, List.contains_iff_mem] at h1; exact h1.1
          · have : Region.ready .any ops listed = [i] := by simpa using h1
            rw [this]; simp
        have hfin : ∀ T' w', ((∃ j ∈ N, (listed.setIfInBounds i true).getD j true = false) → S w') → T' w' → ∀ a', wpSeqD P ops Q S T' l a' w' → wpAnyG P ops Q A S T' r (listed.setIfInBounds i true) a' w' :=
          fun T' w' hw' hT' a' h' => ihn r T' l _ a' w' (hcl.add hir) h3 hw' hT' h'
        have hsub : ∀ j, (listed.setIfInBounds i true).getD j true = false → listed.getD j true = false := fun j hj => by
          by_cases hij : i = j
          · subst hij
            rcases Nat.lt_or_ge i listed.size with h' | h'
            · simp [h'] at hj
            · simp at hj
          · rwa [getD_set_ne true hij] at hj
        by_cases hk13 : k = 1 ∨ k = 3
        · have hf : fixed N A i k = true := by
            rcases hk13 with rfl | rfl
            · simp only [Nat.reduceBEq, Nat.reduceLeDiff, decide_false, Bool.or_true, Bool.or_false, beq_iff_eq] at h2 h2N
              simp only [fixed, Nat.reduceBEq, Bool.true_or, Bool.true_and, Bool.and_eq_true, beq_iff_eq, Bool.not_eq_true', h2, h2N, and_self]
            · simp only [Nat.reduceBEq, Nat.reduceLeDiff, decide_false, Bool.or_true, Bool.or_false, beq_iff_eq] at h2 h2N
              simp only [fixed, Nat.reduceBEq, Bool.or_true, Bool.true_and, Bool.and_eq_true, beq_iff_eq, Bool.not_eq_true', h2, h2N, and_self]
          have h1' : Region.ready .any ops listed = [i] := by
            rcases hk13 with rfl | rfl <;> simpa using h1
          refine ⟨fun h0 => absurd (h1'.symm.trans h0) (by simp), fun j hj => ?_⟩
          rw [h1'] at hj
          obtain rfl : j = i := by simpa using hj
          exact fixed_step ht hcl hir hf (fun a' w' hS' hT' h' => hfin T w' hS' hT' a' h') h
        unfold wpSeqD at h
        by_cases hk0 : k = 0
        · subst hk0
          simp only [beq_self_eq_true, if_true, Bool.true_or, Bool.and_eq_true, List.contains_iff_mem, beq_iff_eq] at h h1 h2 h2N
          obtain ⟨o, v, ho, hy, hw⟩ := h
          have hiN : i ∈ N := by simpa using h2N
          have hun : listed.getD i true = false := (mem_ready.1 h1.1).1
          have hSw := hS ⟨i, hiN, hun⟩
          exact wpAnyG_first ho (Region.noSelect_spec hs) (fun c a' w' => hQ c a' _ _ w') (fun j l' hc hj hu w1 w2 hj' _ hw1 => hj' (tail_in ht hiN hc hj hu) hw1) r listed a w
            (Region.free_spec ho h1.2) hcl h1.1 hy hSw hTw (hfin T w (fun _ => hSw) hTw _ hw)
        · by_cases hk2 : k = 2
          · subst hk2
            simp only [Nat.reduceBEq, Bool.false_eq_true, if_false, beq_self_eq_true, if_true, Bool.or_true, Bool.true_or, Bool.and_eq_true, List.contains_iff_mem, Bool.or_self, beq_iff_eq] at h h1 h2
            obtain ⟨o, v, ho, hy, hw⟩ := h
            exact wpAnyG_first (Si := fun _ => True) ho (Region.noSelect_spec hs) (fun c a' w' => hQ c a' _ _ w') (fun _ _ _ _ _ _ _ _ _ _ => trivial) r listed a w
              (Region.free_spec ho h1.2) hcl h1.1 hy trivial hTw (hfin T w (fun ⟨j, hj, hu⟩ => hS ⟨j, hj, hsub j hu⟩) hTw _ hw)
          · have e0 : (k == 0) = false := by simpa using hk0
            have e1 : (k == 1) = false := by simp; omega
            have e2 : (k == 2) = false := by simpa using hk2
            have e3 : (k == 3) = false := by simp; omega
            have e4 : 4 ≤ k := by omega
            simp only [e0, e1, e2, e3, e4, hkf', Bool.false_eq_true, if_false, decide_true, Bool.or_true, if_true, Bool.and_eq_true, List.contains_iff_mem] at h h1
            obtain ⟨o, v, T', ho, hy, hT', hTT, hw⟩ := h
            exact wpAnyG_mono hTT _ _ _ _ (wpAnyG_first (T := T') (Si := T') ho (Region.noSelect_spec hs) (fun c a' w' => hQ c a' _ _ w') (fun _ _ _ _ _ _ _ _ h' _ => h') r listed a w
              (Region.free_spec ho h1.2) hcl h1.1 hy hT' hT' (hfin T' w (fun ⟨j, hj, hu⟩ => hS ⟨j, hj, hsub j hu⟩) hT' _ hw))
theorem wp_region_seqD {id : Nat} {ord : List (Nat × Nat)} {S T : World → Prop} {a : Act} {w : World} (hm : P.follows .mixedOrders = true) (ho : ordOK ops ord = true)
    (hQ : ∀ c a d v w, Q (.panic c) (a.put d v) w → Q (.panic c) a w) (hS : S { w with drawn := w.drawn + 1 }) (hT : T { w with drawn := w.drawn + 1 }) (h : wpSeqD P ops Q S T ord a { w with drawn := w.drawn + 1 }) : (Code.region id ops true).wp P Q a w := by
  simp only [ordOK, Bool.and_eq_true] at ho
  obtain ⟨⟨h1, h2⟩, h4⟩ := ho
  exact wp_region_any hm (wpAny_of_G (A := firsts ord) (S := S) (T := T) _ _ _ _ (wpAnyG_of_seqD h1 h2 hQ _ _ T ord _ a _ Closed.none h4 (fun _ => hS) hT h))
end
end Go.SX
namespace Go.SX
open Go
inductive GR where
  | go (cs : List Bool) (ks : List Ks) (ci : Nat) (obs : List Prop)
  | skip (obs : List Prop)
def findK : List Ks → Nat → Bool → Option Ks
  | [], _, _ => none
  | r :: l, t, b => if r.tj == t && r.want == b then some r else findK l t b
theorem findK_mem {l : List Ks} {t : Nat} {b : Bool} {r : Ks} (h : findK l t b = some r) : r ∈ l ∧ r.tj = t ∧ r.want = b := by
  induction l with
  | nil => cases h
  | cons x l ih =>
    simp only [findK] at h
    split at h
    · rename_i hc
      cases h
      simp only [Bool.and_eq_true, beq_iff_eq] at hc
      exact ⟨by simp, hc.1, hc.2⟩
    · obtain ⟨h1, h2⟩ := ih h
      exact ⟨by simp [h1], h2⟩
def guardIx (st : St) (all : Array Oper) : Option (Nat × Bool) → Option GR
  | none => some (.go st.cs st.ks 0 [])
  | some (j, want) => match (all[j]?).bind (·.dst) with
    | none => none
    | some tj => match look st.env tj with
      | some (pi, .v (.bool B)) => match lookB st.gd tj with
        | some d => if d == want then some (.go st.cs st.ks pi [cnd st.cs pi = true → B = d]) else some (.skip [cnd st.cs pi = true → B = d])
        | none => match findK st.ks tj want with
          | some r => some (.go st.cs st.ks r.ci [])
          | none => some (.go (st.cs ++ [cnd st.cs pi && (B == want)]) (⟨tj, want, st.cs.length + 1, pi, B⟩ :: st.ks) (st.cs.length + 1) [])
      | some (_, .v (.tuple l)) => if l.size == 0 then some (.skip []) else none
      | _ => none
theorem cnd_append {cs : List Bool} {x : Bool} {i : Nat} (h : i ≤ cs.length) : cnd (cs ++ [x]) i = cnd cs i := by
  cases i with
  | zero => rfl
  | succ n =>
    have : n < cs.length := h
    simp [cnd, List.getElem?_append_left this]
theorem cnd_last {cs : List Bool} {x : Bool} : cnd (cs ++ [x]) (cs.length + 1) = x := by simp [cnd]
theorem wanted_eq (all : Array Oper) (a : Act) (o : Oper) {j : Nat} {want : Bool} {tj : Nat} {C B : Bool} (hg : o.guard = some (j, want)) (hj : (all[j]?).bind (·.dst) = some tj)
    (ht : a.tmps[tj]? = some (if C then Value.bool B else undef)) : Region.wanted o (yielded all a.tmps) = (C && (B == want)) := by
  simp only [Region.wanted, hg, yielded, hj, Option.bind_some, ht]
  cases C <;> simp [undef]
theorem guardIx_go {st : St} {all : Array Oper} {o : Oper} {cs : List Bool} {ks : List Ks} {ci : Nat} {obs : List Prop} {a : Act} (hr : EnvRep st a) (h : guardIx st all o.guard = some (.go cs ks ci obs)) (ho : ∀ p ∈ obs, p) :
    EnvRep { st with cs := cs, ks := ks } a ∧ Region.wanted o (yielded all a.tmps) = cnd cs ci ∧ ci ≤ cs.length := by
  obtain ⟨h1, h2, h3, h4⟩ := hr
  unfold guardIx at h
  split at h
  · rename_i hg
    cases h
    exact ⟨⟨h1, h2, h3, h4⟩, by simp [Region.wanted, hg, cnd], Nat.zero_le _⟩
  · rename_i j want hg
    split at h
    · cases h
    rename_i tj hj
    split at h
    · rename_i pi B hl
      obtain ⟨hb, ht⟩ := h3 _ _ _ hl
      simp only [den] at ht
      have hw := wanted_eq all a o hg hj ht
      split at h
      · rename_i d hd
        split at h
        · rename_i hdw
          cases h
          have hdw' : d = want := by simpa using hdw
          have := ho _ (List.mem_singleton.2 rfl)
          refine ⟨⟨h1, h2, h3, h4⟩, ?_, hb⟩
          rw [hw]
          cases hC : cnd st.cs ci
          · simp
          · simp [this hC, hdw']
        · cases h
      · split at h
        · rename_i r hk
          cases h
          obtain ⟨hm, e1, e2⟩ := findK_mem hk
          obtain ⟨⟨b1, b2⟩, e3, e4⟩ := h4 r hm
          refine ⟨⟨h1, h2, h3, h4⟩, ?_, b1⟩
          rw [e4]
          exact wanted_eq all a o (by rw [e2]; exact hg) hj (by rw [← e1]; exact e3)
        · cases h
          refine ⟨⟨h1, h2, fun t c x hx => ?_, fun r hm => ?_⟩, by rw [hw, cnd_last], by simp⟩
          · obtain ⟨b1, b2⟩ := h3 t c x hx
            exact ⟨by simp; omega, by rw [cnd_append b1]; exact b2⟩
          · rcases List.mem_cons.1 hm with rfl | hm
            · exact ⟨⟨by simp, by simp; omega⟩, by rw [cnd_append hb]; exact ht, by rw [cnd_last, cnd_append hb]⟩
            · obtain ⟨⟨b1, b2⟩, e3, e4⟩ := h4 r hm
              exact ⟨⟨by simp; omega, by simp; omega⟩, by rw [cnd_append b2]; exact e3, by rw [cnd_append b1, cnd_append b2]; exact e4⟩
    · split at h <;> cases h
    · cases h
theorem guardIx_skip {st : St} {all : Array Oper} {o : Oper} {obs : List Prop} {a : Act} (hr : EnvRep st a) (h : guardIx st all o.guard = some (.skip obs)) (ho : ∀ p ∈ obs, p) :
    Region.wanted o (yielded all a.tmps) = false := by
  obtain ⟨h1, h2, h3, h4⟩ := hr
  unfold guardIx at h
  split at h
  · cases h
  · rename_i j want hg
    split at h
    · cases h
    rename_i tj hj
    split at h
    · rename_i pi B hl
      obtain ⟨hb, ht⟩ := h3 _ _ _ hl
      simp only [den] at ht
      have hw := wanted_eq all a o hg hj ht
      split at h
      · rename_i d hd
        split at h
        · cases h
        · rename_i hdw
          cases h
          have hdw' : ¬ d = want := by simpa using hdw
          have := ho _ (List.mem_singleton.2 rfl)
          rw [hw]
          cases hC : cnd st.cs pi
          · rfl
          · rw [this hC]; simp [hdw']
      · split at h <;> cases h
    · rename_i pi l hl
      split at h
      · rename_i hz
        have hl0 : l = #[] := by simpa using hz
        subst hl0
        obtain ⟨hb, ht⟩ := h3 _ _ _ hl
        simp only [den] at ht
        have ht' : a.tmps[tj]? = some undef := by
          rw [ht]
          split <;> rfl
        simp only [Region.wanted, hg, yielded, hj, Option.bind_some, ht']
        simp [undef]
      · cases h
    · cases h
def putS (st : St) (dst : Option Nat) (ci : Nat) (x : SV) : Option St :=
  match dst with
  | none => some st
  | some d => if d < st.nt && st.ks.all (fun r => r.tj != d) then some { st with env := (d, ci, x) :: st.env } else none
theorem putS_sound {st st' : St} {dst : Option Nat} {ci : Nat} {x : SV} {a : Act} (hr : EnvRep st a) (hb : ci ≤ st.cs.length) (h : putS st dst ci x = some st') :
    EnvRep st' (a.put dst (if cnd st.cs ci then den x else undef)) := by
  cases dst with
  | none => cases h; exact hr
  | some d =>
    simp only [putS] at h
    split at h
    · rename_i hc
      cases h
      simp only [Bool.and_eq_true, decide_eq_true_eq, List.all_eq_true, bne_iff_ne, ne_eq] at hc
      obtain ⟨h1, h2, h3, h4⟩ := hr
      refine ⟨by simp [Act.put, h1], h2, fun t c y hy => ?_, fun r hm => ?_⟩
      · simp only [look] at hy
        split at hy
        · rename_i hdt
          cases hy
          have hdt' : d = t := by simpa using hdt
          subst hdt'
          refine ⟨hb, ?_⟩
          simp only [Act.put, Array.getElem?_setIfInBounds_self, h1, hc.1, if_true]
        · rename_i hdt
          have hdt' : ¬ d = t := by simpa using hdt
          obtain ⟨b1, b2⟩ := h3 t c y hy
          exact ⟨b1, by simp only [Act.put, Array.getElem?_setIfInBounds_ne hdt']; exact b2⟩
      · obtain ⟨b1, b2, b3⟩ := h4 r hm
        have hne : ¬ d = r.tj := fun e => hc.2 r hm e.symm
        exact ⟨b1, by simp only [Act.put, Array.getElem?_setIfInBounds_ne hne]; exact b2, b3⟩
    · cases h
theorem putS_fields {st st' : St} {dst : Option Nat} {ci : Nat} {x : SV} (h : putS st dst ci x = some st') : st'.hp = st.hp ∧ st'.s = st.s ∧ st'.k = st.k ∧ st'.nt = st.nt ∧ st'.cs = st.cs := by
  cases dst with
  | none => cases h; exact ⟨rfl, rfl, rfl, rfl, rfl⟩
  | some d =>
    simp only [putS] at h
    split at h
    · cases h; exact ⟨rfl, rfl, rfl, rfl, rfl⟩
    · cases h
def gobs (cs : List Bool) (ci : Nat) (obs : List Prop) : List Prop := if ci = 0 then obs else obs.map fun p => (cnd cs ci = true → p)
theorem gobs_sound {cs : List Bool} {ci : Nat} {obs : List Prop} (h : ∀ p ∈ gobs cs ci obs, p) (hc : cnd cs ci = true) : ∀ p ∈ obs, p := by
  unfold gobs at h
  split at h
  · exact h
  · intro p hp
    exact h (cnd cs ci = true → p) (List.mem_map.2 ⟨p, hp, rfl⟩) hc
structure Cfg where
  tt : List (Nat × TI)
  live : List Nat
  dt : List (Nat × List (Nat × Nat))
  nw : Bool
def stepPure (C : Cfg) (st : St) (hp : Hp) (all : Array Oper) (o : Oper) : Option (List Prop × St) :=
  match guardIx st all o.guard with
  | none => none
  | some (.skip obs) => (putS st o.dst 0 (.v undef)).map fun s => (obs, s)
  | some (.go cs ks ci obs) => match evOp C.nw C.tt { st with cs := cs, ks := ks } hp ci o.op with
    | some (obs', x) => (putS { st with cs := cs, ks := ks } o.dst ci x).map fun s => (obs ++ gobs cs ci obs', s)
    | none => none
theorem stepPure_sound {P : Program} {C : Cfg} (htt : TTok P C.tt) {st st' : St} {hp : Hp} {all : Array Oper} {o : Oper} {obs : List Prop} {a : Act} (hr : EnvRep st a)
    (h : stepPure C st hp all o = some (obs, st')) (ho : ∀ p ∈ obs, p) :
    ∃ v, YieldsIf P all (HpRep hp) o v a ∧ EnvRep st' (a.put o.dst v) ∧ st'.hp = st.hp ∧ st'.s = st.s ∧ st'.k = st.k ∧ st'.nt = st.nt := by
  unfold stepPure at h
  split at h
  · cases h
  · rename_i obs' hg
    simp only [Option.map_eq_some_iff, Prod.mk.injEq] at h
    obtain ⟨s, hs, h1, h2⟩ := h
    subst h1; subst h2
    obtain ⟨f1, f2, f3, f4, f5⟩ := putS_fields hs
    have := putS_sound hr (Nat.zero_le _) hs
    simp only [cnd, if_true, den] at this
    exact ⟨undef, .inr ⟨guardIx_skip hr hg ho, rfl⟩, this, f1, f2, f3, f4⟩
  · rename_i cs ks ci obs' hg
    split at h
    · rename_i obs2 x he
      simp only [Option.map_eq_some_iff, Prod.mk.injEq] at h
      obtain ⟨s, hs, h1, h2⟩ := h
      subst h1; subst h2
      obtain ⟨f1, f2, f3, f4, f5⟩ := putS_fields hs
      obtain ⟨g1, g2, g3⟩ := guardIx_go hr hg (fun p hp => ho p (by simp [hp]))
      have hput := putS_sound g1 g3 hs
      refine ⟨_, ?_, hput, f1, f2, f3, f4⟩
      cases hc : cnd cs ci
      · exact .inr ⟨by rw [g2, hc], by simp⟩
      · refine .inl ⟨by rw [g2, hc], fun w hw => ?_⟩
        have ho2 : ∀ p ∈ obs2, p := gobs_sound (fun p hp => ho p (by simp [hp])) hc
        have := evOp_sound htt g1 hc hw he ho2
        simpa using this
    · cases h
theorem Keeps.alloc {F : Fr} {w : World} (h : Keeps F w) (o : Obj) : Keeps F (w.alloc o) :=
  ⟨h.hB, h.os, h.tape, h.output, by have := h.size; show _ ≤ (w.heap.push o).size; simp; omega, fun k hk hm => by
    rw [← h.block k hk hm]
    have h1 : k < w.heap.size := Nat.lt_of_lt_of_le hk (Nat.le_trans h.hB h.size)
    show (w.heap.push o)[k]? = _
    rw [Array.getElem?_push, if_neg (by omega)]⟩
theorem heap_alloc_lt {w : World} {o : Obj} {k : Nat} (h : k < w.heap.size) : (w.alloc o).heap[k]? = w.heap[k]? := by
  show (w.heap.push o)[k]? = _
  rw [Array.getElem?_push, if_neg (by omega)]
theorem heap_alloc_new {w : World} {o : Obj} : (w.alloc o).heap[w.heap.size]? = some o := by
  show (w.heap.push o)[w.heap.size]? = _
  simp
theorem HpRep.alloc {hp : Hp} {w : World} (h : HpRep hp w) (o : Obj) : HpRep hp (w.alloc o) := fun i b m s hi =>
  SO.rep_same (h i b m s hi) (heap_alloc_lt (SO.rep_lt (h i b m s hi)))
structure MemRep (F : Fr) (H : Hp) (s k : Nat) (w : World) : Prop where
  hp : HpRep H w
  mu : ∀ (i b : Nat) (o : SO), H[i]? = some (b, true, o) → F.B ≤ b ∨ b ∈ F.M
  nd : ∀ (i j : Nat) (x y : Nat × Bool × SO), H[i]? = some x → H[j]? = some y → x.1 = y.1 → i = j
  sz : w.heap.size = s + k
  kp : Keeps F w
theorem Rep.mem {F : Fr} {st : St} {a : Act} {w : World} (h : Rep F st a w) : MemRep F st.hp st.s st.k w := ⟨h.hp, h.mu, h.nd, h.sz, h.kp⟩
theorem Rep.of_mem {F : Fr} {st : St} {a : Act} {w : World} (he : EnvRep st a) (h : MemRep F st.hp st.s st.k w) : Rep F st a w := ⟨he, h.hp, h.mu, h.nd, h.sz, h.kp⟩
theorem get_append_one {α : Type} {l : List α} {x y : α} {i : Nat} (h : (l ++ [x])[i]? = some y) : l[i]? = some y ∨ (i = l.length ∧ y = x) := by
  rcases Nat.lt_trichotomy i l.length with h1 | h1 | h1
  · rw [List.getElem?_append_left h1] at h; exact .inl h
  · subst h1; simp at h; exact .inr ⟨rfl, h.symm⟩
  · rw [List.getElem?_append_right (by omega)] at h
    rw [List.getElem?_eq_none (by simp; omega)] at h
    cases h
theorem MemRep.alloc {F : Fr} {hp : Hp} {s k : Nat} {w : World} (h : MemRep F hp s k w) {o : Obj} {so : SO} (hso : so.rep (w.alloc o) (s + k)) : MemRep F (hp ++ [(s + k, true, so)]) s (k + 1) (w.alloc o) where
  hp := fun i b m t hi => by
    rcases get_append_one hi with h1 | ⟨_, h1⟩
    · exact h.hp.alloc o i b m t h1
    · cases h1; exact hso
  mu := fun i b t hi => by
    rcases get_append_one hi with h1 | ⟨_, h1⟩
    · exact h.mu i b t h1
    · cases h1
      have := h.kp.size
      have := h.kp.hB
      have := h.sz
      exact .inl (by omega)
  nd := fun i j x y hi hj hxy => by
    rcases get_append_one hi with h1 | ⟨e1, h1⟩ <;> rcases get_append_one hj with h2 | ⟨e2, h2⟩
    · exact h.nd i j x y h1 h2 hxy
    · subst h2
      have := SO.rep_lt (h.hp i x.1 x.2.1 x.2.2 h1)
      rw [h.sz, hxy] at this
      exact absurd this (by simp)
    · subst h1
      have := SO.rep_lt (h.hp j y.1 y.2.1 y.2.2 h2)
      rw [h.sz, ← hxy] at this
      exact absurd this (by simp)
    · omega
  sz := by show (w.heap.push o).size = _; rw [Array.size_push, h.sz]; omega
  kp := h.kp.alloc o
def evNew (tt : List (Nat × TI)) (st : St) (c : Nat) : Op → Option (SV × SO)
  | .alloc t => match lookT tt t with
    | some ti => some (.ptr st.hp.length (st.s + st.k) 0, .cells (cellsV ti.zero) t)
    | none => none
  | .box t x => match opd st c x with
    | some y => some (.ptr st.hp.length (st.s + st.k) 0, .cells y.cells t)
    | none => none
  | .buildSlice t n parts => match lookT tt t with
    | some { d := .slice e, .. } => match lookT tt e, opds st c (parts.toList.map (·.2)) with
      | some te, some l =>
        if parts.toList.map (·.1) = List.range n ∧ l.all (fun y => y.cells.length == te.sz) ∧ n * te.sz ≤ 16777216 ∧ te.sz ≠ 0 then
          some (.sl st.hp.length (st.s + st.k) 0 0 n n te.sz, .arr 0 n (fun j => (l.map SV.cells).getD j []) te.sz e (0, 0))
        else none
      | _, _ => none
    | _ => none
  | .makeMap _ none => some (.mp st.hp.length (st.s + st.k), .imap fun _ => none)
  | .makeSlice t x y => match lookT tt t with
    | some { d := .slice e, .. } => match lookT tt e, opd st c x, opd st c y with
      | some te, some (.v (.int _ n1)), some (.v (.int _ n2)) =>
        if 0 ≤ n1 ∧ n1 ≤ n2 ∧ n2 * te.by_ ≤ 16777216 ∧ n2 ≤ 16777216 ∧ te.zero.cells.size = te.sz ∧ te.sz ≠ 0 then
          some (.sl st.hp.length (st.s + st.k) 0 0 n1.toNat n2.toNat te.sz, .arr 0 n2.toNat (fun _ => te.zero.cells.toList.map .v) te.sz e (0, 0))
        else none
      | _, _, _ => none
    | _ => none
  | _ => none
theorem cells_of_literal {rows : List (List SV)} {sz : Nat} (h : ∀ r ∈ rows, r.length = sz) : ArrRep (denL rows.flatten).toArray 0 rows.length (fun j => rows.getD j []) sz := by
  induction rows with
  | nil => exact ⟨by simp [denL], fun j hj => by simp at hj⟩
  | cons r rows ih =>
    have hr : r.length = sz := h r (by simp)
    obtain ⟨h1, h2⟩ := ih (fun x hx => h x (by simp [hx]))
    simp only [List.size_toArray, denL_length, Nat.zero_add] at h1
    refine ⟨by simp [denL_length, hr, Nat.add_mul] at *; omega, fun j hj => ?_⟩
    cases j with
    | zero =>
      refine ⟨by simpa using hr, fun s hs => ?_⟩
      rw [Nat.zero_add]
      simp only [List.flatten_cons, denL_append, List.getElem?_toArray, Nat.zero_mul, Nat.zero_add, List.getD_cons_zero]
      rw [List.getElem?_append_left (by rw [denL_length]; omega)]
    | succ j =>
      obtain ⟨h3, h4⟩ := h2 j (by simpa using hj)
      refine ⟨by simpa using h3, fun s hs => ?_⟩
      have := h4 s hs
      rw [Nat.zero_add] at this ⊢
      simp only [List.getElem?_toArray] at this
      simp only [List.flatten_cons, denL_append, List.getElem?_toArray, List.getD_cons_succ]
      rw [List.getElem?_append_right (by rw [denL_length]; simp [Nat.add_mul]; omega), denL_length, ← this]
      congr 1
      rw [hr, Nat.add_mul]; omega
theorem fill_rows {sz : Nat} : ∀ (l : List SV) (pre : List SV) (m : Nat) (post : List SV), (∀ y ∈ l, y.cells.length = sz) → pre.length = m * sz → post.length = l.length * sz →
    evFill (fun i => some (i * sz, sz)) (pre ++ post) ((List.range' m l.length).zip l) = some (pre ++ (l.map SV.cells).flatten)
  | [], pre, m, post, _, _, hp => by
    have : post = [] := List.length_eq_zero_iff.1 (by simpa using hp)
    simp [evFill, this]
  | y :: l, pre, m, post, hy, hpre, hp => by
    have h1 : y.cells.length = sz := hy y (by simp)
    simp only [List.length_cons, Nat.add_mul, Nat.one_mul] at hp
    simp only [List.length_cons, List.range'_succ, List.zip_cons_cons, evFill]
    rw [if_pos ⟨h1, by simp; omega⟩]
    have h2 : spliceL (pre ++ post) (m * sz) y.cells = (pre ++ y.cells) ++ post.drop sz := by
      unfold spliceL
      rw [← hpre, List.take_left, List.drop_append, List.append_assoc]
      congr 2
      rw [List.drop_eq_nil_of_le (by omega), List.nil_append]
      congr 1; omega
    rw [h2, fill_rows l (pre ++ y.cells) (m + 1) (post.drop sz) (fun z hz => hy z (by simp [hz])) (by simp [hpre, h1, Nat.add_mul]) (by simp; omega)]
    simp
theorem evNew_sound {P : Program} {tt : List (Nat × TI)} (htt : TTok P tt) {F : Fr} {st : St} {c : Nat} {o : Oper} {x : SV} {so : SO} {a : Act} {w : World}
    (he : EnvRep st a) (hm : MemRep F st.hp st.s st.k w) (hc : cnd st.cs c = true) (h : evNew tt st c o.op = some (x, so)) :
    ∃ ob, (execOp a.eval o).run P w = .ok (.value (den x)) (w.alloc ob) ∧ so.rep (w.alloc ob) (st.s + st.k) := by
  have hsz : w.heap.size = st.s + st.k := hm.sz
  unfold evNew at h
  split at h
  · rename_i t hop
    split at h
    · rename_i ti hti
      cases h
      refine ⟨.cells ti.zero.cells t, ?_, ?_⟩
      · simp only [execOp, hop, Instr.alloc, Sem.run_bind, run_zeroValue' (htt _ _ hti), Result.andThen_ok, newVar, newRow, newObj, Sem.run, Sem.run_pure, den, hsz]
        rfl
      · show (w.alloc _).heap[st.s + st.k]? = _
        rw [← hsz, heap_alloc_new, denL_cellsV]
    · cases h
  · rename_i t y hop
    split at h
    · rename_i z hz
      cases h
      refine ⟨.cells (den z).cells t, ?_, ?_⟩
      · simp only [execOp, hop, Instr.box, opd_sound he hc hz, Sem.run_bind, Result.andThen_ok, newVar, newRow, newObj, Sem.run, Sem.run_pure, den, hsz]
        rfl
      · show (w.alloc _).heap[st.s + st.k]? = _
        rw [← hsz, heap_alloc_new, SV.cells_den]
    · cases h
  · rename_i t n parts hop
    split at h
    · rename_i e _ _ _ hti
      split at h
      · rename_i te l hte hl
        split at h
        · rename_i hcond
          obtain ⟨c1, c2, c3, c4⟩ := hcond
          cases h
          have hu := (htt _ _ hti).slice rfl
          have hlen : l.length = n := by
            have h1 : (parts.toList.map (·.1)).length = n := by rw [c1]; simp
            have h2 := opds_sound he hc _ _ hl
            have h3 := congrArg List.length h2
            simp [denL_length] at h3 h1
            omega
          have c2' : ∀ y ∈ l, y.cells.length = te.sz := by simpa [List.all_eq_true] using c2
          have hrows := cells_of_literal (rows := l.map SV.cells) (sz := te.sz) (by
            intro r hr
            obtain ⟨y, hy, rfl⟩ := List.mem_map.1 hr
            exact c2' y hy)
          refine ⟨.cells (denL (l.map SV.cells).flatten).toArray e, ?_, ?_⟩
          · have e1 := zip_den he hc hl
            rw [c1] at e1
            obtain ⟨xi, hi1, hi2, hi3, hi4⟩ := (htt _ _ hte).info
            have hfill : ∀ z : Array Value, Instr.fill (fun i => some (i * te.sz, te.sz)) ((Array.range (n * te.sz)).map (z[· % z.size]!)) (parts.map fun (i, x) => (i, a.eval x)).toList = some (denL (l.map SV.cells).flatten).toArray := by
              intro z
              have hf := evFill_sound (places := fun i => some (i * te.sz, te.sz)) ((List.range n).zip l) ((((Array.range (n * te.sz)).map (z[· % z.size]!)).toList).map .v) ((l.map SV.cells).flatten) (by
                have := fill_rows l [] 0 ((((Array.range (n * te.sz)).map (z[· % z.size]!)).toList).map .v) c2' (by simp) (by simp [hlen])
                rw [List.nil_append, hlen, ← List.range_eq_range'] at this
                exact this)
              rw [denL_map_v] at hf
              have hA : ((Array.range (n * te.sz)).map (z[· % z.size]!)).toList.toArray = (Array.range (n * te.sz)).map (z[· % z.size]!) := Array.toArray_toList
              rw [hA] at hf
              rw [Array.toList_map, e1]
              exact hf
            have hlim : ¬ n * te.sz > 2 ^ 24 := by omega
            by_cases hz : n * te.sz = 0
            · simp only [execOp, hop, Instr.buildSlice, Sem.run_bind, run_underlying hu, Result.andThen_ok, run_sizeOf' (htt _ _ hte), if_neg hlim, if_pos hz, hfill, newRow, newObj, Sem.run, Sem.run_pure, den, hsz, Nat.zero_mul]
              rfl
            · simp only [execOp, hop, Instr.buildSlice, Sem.run_bind, run_underlying hu, Result.andThen_ok, run_sizeOf' (htt _ _ hte), if_neg hlim, if_neg hz, run_zeroValue' (htt _ _ hte), hfill, newRow, newObj, Sem.run, Sem.run_pure, den, hsz, Nat.zero_mul]
              rfl
          · rw [List.length_map, hlen] at hrows
            exact ⟨(denL (l.map SV.cells).flatten).toArray, by rw [← hsz]; exact heap_alloc_new, hrows⟩
        · cases h
      · cases h
    · cases h
  · rename_i t hop
    cases h
    refine ⟨.map #[] 0, ?_, ?_⟩
    · simp only [execOp, hop, Instr.makeMap, Sem.run_bind, Option.map_none, Sem.run_pure, Result.andThen_ok, newObj, Sem.run, den, hsz]
      rfl
    · refine ⟨#[], 0, ?_, IMap.empty⟩
      rw [← hsz, heap_alloc_new]
  · rename_i t x y hop
    split at h
    · rename_i e _ _ _ hti
      split at h
      · rename_i te k1 n1 k2 n2 hte hx hy
        split at h
        · rename_i hcond
          obtain ⟨c1, c2, c3, c4, c5, c6⟩ := hcond
          cases h
          have hu := (htt _ _ hti).slice rfl
          obtain ⟨xi, hi1, hi2, hi3, hi4⟩ := (htt _ _ hte).info
          have ex : a.eval x = .int k1 n1 := by have := opd_sound he hc hx; simpa [den] using this
          have ey : a.eval y = .int k2 n2 := by have := opd_sound he hc hy; simpa [den] using this
          have w1 : IntKind.i64.wrap n1 = n1 := wrap_inK (by unfold inK; omega)
          have w2 : IntKind.i64.wrap n2 = n2 := wrap_inK (by unfold inK; omega)
          have hinfo : (typeInfo e).run P w = .ok xi w := by simp [typeInfo, hi1]
          have hn0 : ¬ (te.by_ : Int) * n2 > 2 ^ 48 := by rw [Int.mul_comm]; omega
          have hroom : ¬ n2.toNat * te.by_ > roomBytes := by
            have : ((n2.toNat * te.by_ : Nat) : Int) = n2 * te.by_ := by rw [Int.natCast_mul, Int.toNat_of_nonneg (by omega)]
            simp only [roomBytes]
            omega
          have t2 : (decide (n2 < 0) || decide ((te.by_ : Int) * n2 > 2 ^ 48) || decide (n1 < 0) || decide (n1 > n2)) = false := by
            simp only [Bool.or_eq_false_iff, decide_eq_false_iff_not]
            omega
          refine ⟨.cells ((Array.range (n2.toNat * te.sz)).map (te.zero.cells[· % te.zero.cells.size]!)) e, ?_, ?_⟩
          · by_cases hz : n2.toNat * te.sz = 0
            · simp only [execOp, hop, Instr.makeSlice, Sem.run_bind, run_underlying hu, Result.andThen_ok, ex, ey, asInt, asIntOf, Sem.run_pure, hinfo, w1, w2, hi3, t2, Bool.false_eq_true, if_false, askRoom, if_neg hroom, run_sizeOf' (htt _ _ hte), if_true, newRow, newObj, Sem.run, den, hsz, Nat.zero_mul, hz]
              simp [show Array.range 0 = #[] from rfl]
            · simp only [execOp, hop, Instr.makeSlice, Sem.run_bind, run_underlying hu, Result.andThen_ok, ex, ey, asInt, asIntOf, Sem.run_pure, hinfo, w1, w2, hi3, t2, Bool.false_eq_true, if_false, askRoom, if_neg hroom, run_sizeOf' (htt _ _ hte), if_neg hz, run_zeroValue' (htt _ _ hte), newRow, newObj, Sem.run, den, hsz, Nat.zero_mul]
              rfl
          · refine ⟨_, by rw [← hsz]; exact heap_alloc_new, by simp, fun j hj => ⟨by simp [c5], fun s hs => ?_⟩⟩
            have h1 : j * te.sz + s < n2.toNat * te.sz := by
              have := Nat.mul_le_mul_right te.sz (show j + 1 ≤ n2.toNat by omega)
              rw [Nat.succ_mul] at this
              omega
            rw [Nat.zero_add, denL_map_v]
            simp only [Array.getElem?_map, Array.getElem?_range, h1, if_true, Option.map_some, c5]
            rw [show (j * te.sz + s) % te.sz = s by rw [Nat.mul_comm, Nat.mul_add_mod, Nat.mod_eq_of_lt hs]]
            have h2 : s < te.zero.cells.size := by omega
            simp [getElem!_pos, h2]
        · cases h
      · cases h
    · cases h
  · cases h
end Go.SX
