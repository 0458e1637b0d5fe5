/-
  A symbolic executor for one function's code, stated as a computed condition, and its soundness over the given weakest preconditions. Part 1: values, states, what they mean. Holds for every program.
-/
import Derived.WalkKit
import Derived.OrdersHeld
import Derived.Below
import Derived.KernelRfl
namespace Go.SX
set_option linter.unusedVariables false
set_option linter.unusedSimpArgs false
set_option linter.unusedSectionVars false
open Go

/-- A value whose addresses of known blocks are marked with the block's place in the state's list. -/
inductive SV where
  | v (x : Value)
  | ptr (i b off : Nat)
  | el (i b o0 idx sz sub : Nat)
  | sl (i b o0 base len cap sz : Nat)
  | mp (i b : Nat)
  | ag (l : List SV)
  | tu (l : List SV)
  | fn (f : Fn) (first cap : List SV)

mutual
def den : SV → Value
  | .v x => x
  | .ptr _ b off => .pointer (some ⟨b, off, none⟩)
  | .el _ b o0 idx sz sub => .pointer (some ⟨b, o0 + (idx * sz + sub), none⟩)
  | .sl _ b o0 base len cap sz => .slice (some ⟨b, o0 + base * sz, none⟩) len cap
  | .mp _ b => .map (some b)
  | .ag l => .agg (denL l).toArray
  | .tu l => .tuple (denL l).toArray
  | .fn f a c => .func f (denL a).toArray (denL c).toArray
def denL : List SV → List Value
  | [] => []
  | x :: l => den x :: denL l
end

theorem denL_map : ∀ l : List SV, denL l = l.map den
  | [] => rfl
  | x :: l => by simp [denL, denL_map l]
theorem denL_length (l : List SV) : (denL l).length = l.length := by simp [denL_map]
theorem denL_append (l m : List SV) : denL (l ++ m) = denL l ++ denL m := by simp [denL_map]
theorem denL_get? (l : List SV) (i : Nat) : (denL l)[i]? = (l[i]?).map den := by simp [denL_map]
theorem denL_drop (l : List SV) (i : Nat) : denL (l.drop i) = (denL l).drop i := by simp [denL_map, List.map_drop]
theorem denL_take (l : List SV) (i : Nat) : denL (l.take i) = (denL l).take i := by simp [denL_map, List.map_take]

/-- An array of n rows of sz cells each. -/
def ArrRep (c : Array Value) (o0 n : Nat) (row : Nat → List SV) (sz : Nat) : Prop :=
  o0 + n * sz ≤ c.size ∧ ∀ j, j < n → (row j).length = sz ∧ ∀ s, s < sz → c[o0 + (j * sz + s)]? = (denL (row j))[s]?

inductive SO where
  | cells (l : List SV) (t : TypeId)
  | arr (o0 n : Nat) (row : Nat → List SV) (sz : Nat) (t : TypeId) (fz : Nat × Nat)
  | imap (m : Int → Option SV)
  | iset (p : Int → Bool)
  | obj (o : Obj)
  | any

/-- A map's entry. -/
def mkEntry (e : Int × SV × Nat) : MapEntry := { key := .int .i64 e.1, val := den e.2.1, born := e.2.2 }

/-- A map from ints, as a function. -/
def IMap (es : Array MapEntry) (clk : Nat) (m : Int → Option SV) : Prop :=
  ∃ l : List (Int × SV × Nat), es = (l.map mkEntry).toArray ∧ (l.map (·.1)).Nodup ∧ (l.map (·.2.2)).Nodup ∧ (∀ e ∈ l, e.2.2 < clk) ∧
    ∀ k x, m k = some x ↔ ∃ n, (k, x, n) ∈ l

def setFn (p : Int → Bool) : Int → Option SV := fun k => if p k then some (.v (.bool true)) else none

def SO.rep (w : World) (b : Nat) : SO → Prop
  | .cells l t => w.heap[b]? = some (.cells (denL l).toArray t (0, 0))
  | .arr o0 n row sz t fz => ∃ c, w.heap[b]? = some (.cells c t fz) ∧ ArrRep c o0 n row sz
  | .imap m => ∃ es clk, w.heap[b]? = some (.map es clk) ∧ IMap es clk m
  | .iset p => ∃ es clk, w.heap[b]? = some (.map es clk) ∧ IMap es clk (setFn p)
  | .obj o => w.heap[b]? = some o
  | .any => b < w.heap.size

theorem lt_of_heap {w : World} {b : Nat} {o : Obj} (h : w.heap[b]? = some o) : b < w.heap.size := by
  rcases Nat.lt_or_ge b w.heap.size with h' | h'
  · exact h'
  · simp [Array.getElem?_eq_none h'] at h

theorem SO.rep_lt {w : World} {b : Nat} {o : SO} (h : o.rep w b) : b < w.heap.size := by
  cases o with
  | cells l t => exact lt_of_heap h
  | arr o0 n row sz t fz => obtain ⟨c, h, _⟩ := h; exact lt_of_heap h
  | imap m => obtain ⟨es, clk, h, _⟩ := h; exact lt_of_heap h
  | iset p => obtain ⟨es, clk, h, _⟩ := h; exact lt_of_heap h
  | obj o => exact lt_of_heap h
  | any => exact h

/-- A block that holds what it held. -/
theorem SO.rep_same {w w' : World} {b : Nat} {o : SO} (h : o.rep w b) (he : w'.heap[b]? = w.heap[b]?) : o.rep w' b := by
  cases o with
  | cells l t => exact he.trans h
  | arr o0 n row sz t fz => obtain ⟨c, h, h2⟩ := h; exact ⟨c, he.trans h, h2⟩
  | imap m => obtain ⟨es, clk, h, h2⟩ := h; exact ⟨es, clk, he.trans h, h2⟩
  | iset p => obtain ⟨es, clk, h, h2⟩ := h; exact ⟨es, clk, he.trans h, h2⟩
  | obj o => exact he.trans h
  | any =>
    have hlt : b < w.heap.size := h
    show b < w'.heap.size
    rcases Nat.lt_or_ge b w'.heap.size with h' | h'
    · exact h'
    · rw [Array.getElem?_eq_none h'] at he
      rw [Array.getElem?_eq_getElem hlt] at he
      cases he

/-! ### Types -/
inductive TD where
  | int (k : IntKind) | bool | str | ptr (e : Nat) | slice (e : Nat) | arr (n e : Nat) | struct (fs : List (Nat × Nat)) | map (k e : Nat) | func | iface | other

def toTD : TypeDesc → TD
  | .int k => .int k
  | .bool => .bool
  | .string => .str
  | .pointer e => .ptr e
  | .slice e => .slice e
  | .array n e => .arr n e
  | .struct fs => .struct (fs.toList.map fun f => (f.offset, f.type))
  | .map k e => .map k e
  | .func .. => .func
  | .interface .. => .iface
  | _ => .other

structure TI where
  d : TD
  sz : Nat
  by_ : Nat
  zero : Value

def TI.ok (P : Program) (t : TypeId) (i : TI) : Prop :=
  (P.underlying t).map toTD = some i.d ∧ (P.info? t).map (fun x => (x.size, x.bytes, x.zero)) = some (i.sz, i.by_, some i.zero)

def lookT : List (Nat × TI) → Nat → Option TI
  | [], _ => none
  | (u, i) :: r, t => if u == t then some i else lookT r t

def TTok (P : Program) (tt : List (Nat × TI)) : Prop := ∀ t i, lookT tt t = some i → TI.ok P t i

theorem TTok.nil {P : Program} : TTok P [] := fun _ _ h => by simp [lookT] at h
theorem TTok.cons {P : Program} {t : Nat} {i : TI} {r : List (Nat × TI)} (h : i.ok P t) (hr : TTok P r) : TTok P ((t, i) :: r) := by
  intro u j hj
  simp only [lookT] at hj
  split at hj
  · rename_i e
    have e' : t = u := by simpa using e
    cases hj
    exact e' ▸ h
  · exact hr u j hj

section
variable {P : Program} {t : TypeId} {i : TI}
theorem TI.ok.under (h : i.ok P t) : ∃ d, P.underlying t = some d ∧ toTD d = i.d := by
  have h1 := h.1
  cases hu : P.underlying t with
  | none => rw [hu] at h1; cases h1
  | some d => rw [hu] at h1; exact ⟨d, rfl, by simpa using h1⟩
theorem TI.ok.info (h : i.ok P t) : ∃ x, P.info? t = some x ∧ x.size = i.sz ∧ x.bytes = i.by_ ∧ x.zero = some i.zero := by
  have h1 := h.2
  cases hu : P.info? t with
  | none => rw [hu] at h1; cases h1
  | some x =>
    rw [hu] at h1
    simp only [Option.map_some, Option.some.injEq, Prod.mk.injEq] at h1
    exact ⟨x, rfl, h1.1, h1.2.1, h1.2.2⟩
theorem TI.ok.int (h : i.ok P t) {k : IntKind} (hd : i.d = .int k) : P.underlying t = some (.int k) := by
  obtain ⟨d, h1, h2⟩ := h.under
  rw [hd] at h2
  cases d <;> simp [toTD] at h2
  rw [h1, h2]
theorem TI.ok.slice (h : i.ok P t) {e : Nat} (hd : i.d = .slice e) : P.underlying t = some (.slice e) := by
  obtain ⟨d, h1, h2⟩ := h.under
  rw [hd] at h2
  cases d <;> simp [toTD] at h2
  rw [h1, h2]
theorem TI.ok.arr (h : i.ok P t) {n e : Nat} (hd : i.d = .arr n e) : P.underlying t = some (.array n e) := by
  obtain ⟨d, h1, h2⟩ := h.under
  rw [hd] at h2
  cases d <;> simp [toTD] at h2
  rw [h1, h2.1, h2.2]
theorem TI.ok.map (h : i.ok P t) {k e : Nat} (hd : i.d = .map k e) : P.underlying t = some (.map k e) := by
  obtain ⟨d, h1, h2⟩ := h.under
  rw [hd] at h2
  cases d <;> simp [toTD] at h2
  rw [h1, h2.1, h2.2]
theorem TI.ok.str (h : i.ok P t) (hd : i.d = .str) : P.underlying t = some .string := by
  obtain ⟨d, h1, h2⟩ := h.under
  rw [hd] at h2
  cases d <;> simp [toTD] at h2
  exact h1
theorem TI.ok.ptr (h : i.ok P t) {e : Nat} (hd : i.d = .ptr e) : P.underlying t = some (.pointer e) := by
  obtain ⟨d, h1, h2⟩ := h.under
  rw [hd] at h2
  cases d <;> simp [toTD] at h2
  rw [h1, h2]
theorem TI.ok.struct (h : i.ok P t) {fs : List (Nat × Nat)} (hd : i.d = .struct fs) :
    ∃ a : Array Field, P.underlying t = some (.struct a) ∧ a.toList.map (fun f => (f.offset, f.type)) = fs := by
  obtain ⟨d, h1, h2⟩ := h.under
  rw [hd] at h2
  cases d <;> simp [toTD] at h2
  rename_i a
  exact ⟨a, h1, by simpa using h2⟩
end

def TD.isAgg : TD → Bool
  | .struct _ | .arr .. => true
  | _ => false

theorem run_isAgg {P : Program} {t : TypeId} {i : TI} (h : i.ok P t) (w : World) : (isAgg t).run P w = .ok i.d.isAgg w := by
  obtain ⟨d, h1, h2⟩ := h.under
  simp only [isAgg, Sem.run_bind, run_underlying h1, Result.andThen_ok]
  cases d <;> simp [toTD] at h2 <;> rw [← h2] <;> rfl
theorem run_sizeOf' {P : Program} {t : TypeId} {i : TI} (h : i.ok P t) (w : World) : (sizeOf t).run P w = .ok i.sz w := by
  obtain ⟨x, h1, h2, _⟩ := h.info
  simp [sizeOf, typeInfo, h1, h2]
theorem run_zeroValue' {P : Program} {t : TypeId} {i : TI} (h : i.ok P t) (w : World) : (zeroValue t).run P w = .ok i.zero w := by
  obtain ⟨x, h1, _, _, h2⟩ := h.info
  simp [zeroValue, typeInfo, h1, h2]

/-! ### States -/
structure Fr where
  w0 : World
  B : Nat
  M : List Nat

/-- Of what lay below B when it began, all but the blocks of M is as it was. -/
structure Keeps (F : Fr) (w : World) : Prop where
  hB : F.B ≤ F.w0.heap.size
  os : w.os = F.w0.os
  tape : w.tape = F.w0.tape
  output : w.output = F.w0.output
  size : F.w0.heap.size ≤ w.heap.size
  block : ∀ k, k < F.B → k ∉ F.M → w.heap[k]? = F.w0.heap[k]?

structure Ks where
  tj : Nat
  want : Bool
  ci : Nat
  pi : Nat
  B : Bool

structure St where
  env : List (Nat × Nat × SV)
  hp : List (Nat × Bool × SO)
  s : Nat
  k : Nat
  nt : Nat
  cs : List Bool
  ks : List Ks
  gd : List (Nat × Bool)

def look : List (Nat × Nat × SV) → Nat → Option (Nat × SV)
  | [], _ => none
  | (u, c, x) :: r, t => if u == t then some (c, x) else look r t

def cnd (cs : List Bool) : Nat → Bool
  | 0 => true
  | n + 1 => cs.getD n true

def EnvRep (st : St) (a : Act) : Prop :=
  a.tmps.size = st.nt ∧ a.defers = [] ∧
  (∀ t c x, look st.env t = some (c, x) → c ≤ st.cs.length ∧ a.tmps[t]? = some (if cnd st.cs c then den x else undef)) ∧
  ∀ r ∈ st.ks, (r.ci ≤ st.cs.length ∧ r.pi ≤ st.cs.length) ∧ a.tmps[r.tj]? = some (if cnd st.cs r.pi then .bool r.B else undef) ∧ cnd st.cs r.ci = (cnd st.cs r.pi && (r.B == r.want))

def HpRep (hp : List (Nat × Bool × SO)) (w : World) : Prop := ∀ (i b : Nat) (m : Bool) (o : SO), hp[i]? = some (b, m, o) → o.rep w b

structure Rep (F : Fr) (st : St) (a : Act) (w : World) : Prop where
  env : EnvRep st a
  hp : HpRep st.hp w
  mu : ∀ (i b : Nat) (o : SO), st.hp[i]? = some (b, true, o) → F.B ≤ b ∨ b ∈ F.M
  nd : ∀ (i j : Nat) (x y : Nat × Bool × SO), st.hp[i]? = some x → st.hp[j]? = some y → x.1 = y.1 → i = j
  sz : w.heap.size = st.s + st.k
  kp : Keeps F w

def opd (st : St) (c : Nat) : Operand → Option SV
  | .tmp t => match look st.env t with
    | some (ci, x) => if ci == 0 || ci == c then some x else none
    | none => none
  | .const v => some (.v v)
  | .func f => some (.fn (.func f) [] [])
  | .global _ => none

theorem opd_sound {st : St} {a : Act} {c : Nat} {x : Operand} {s : SV} (hr : EnvRep st a) (hc : cnd st.cs c = true) (h : opd st c x = some s) : a.eval x = den s := by
  cases x with
  | tmp t =>
    simp only [opd] at h
    cases hl : look st.env t with
    | none => simp [hl] at h
    | some p =>
      obtain ⟨ci, y⟩ := p
      simp only [hl] at h
      split at h
      · rename_i hci
        cases h
        have h2 := (hr.2.2.1 t ci _ hl).2
        have hcc : cnd st.cs ci = true := by
          simp only [Bool.or_eq_true, beq_iff_eq] at hci
          rcases hci with rfl | rfl
          · rfl
          · exact hc
        simp only [hcc, if_true] at h2
        simp [Act.eval, Array.getD_eq_getD_getElem?, h2]
      · cases h
  | const v => cases h; rfl
  | global g => cases h
  | func f => cases h; rfl

def opds (st : St) (c : Nat) : List Operand → Option (List SV)
  | [] => some []
  | x :: l => match opd st c x, opds st c l with
    | some s, some r => some (s :: r)
    | _, _ => none

theorem opds_sound {st : St} {a : Act} {c : Nat} (hr : EnvRep st a) (hc : cnd st.cs c = true) : ∀ (l : List Operand) (r : List SV), opds st c l = some r → l.map a.eval = denL r
  | [], r, h => by cases h; rfl
  | x :: l, r, h => by
    simp only [opds] at h
    split at h
    · rename_i s r' h1 h2
      cases h
      simp [denL, opd_sound hr hc h1, opds_sound hr hc l r' h2]
    · cases h

end Go.SX
