/- Live: the order of extents (closure f36), in exact worlds: its region has no single order. -/
import Derived.Test.YtnmjdelnllchdaaDVa
import Derived.Test.YtnmjdelnllchdaaDVs
import Derived.Test.YtnmjdelnllchdaaSxH
import Derived.Test.YtnmjdelnllchdaaSxJ
import Derived.Test.YtnmjdelnllchdaaDT2
import Derived.Deep.RegionWith
import Derived.Deep.Draws

namespace Go.Proofs
set_option linter.unusedVariables false
set_option linter.unusedSimpArgs false
set_option linter.unusedSectionVars false
open Go Go.SX Go.RowKit Go.Sort

def orI (x y : Int) : Int := if x ≠ 0 then x else y
theorem or2_okI (x y : Int) (b : Nat) (W : World) (h0 : W.cell? ⟨b, 0, none⟩ = some (.int .i64 x)) (h1 : W.cell? ⟨b, 1, none⟩ = some (.int .i64 y)) : Calls Try.prog 37 #[.slice (some ⟨b, 0, none⟩) 2 2] W fun e w' => e = .returned (.int .i64 (orI x y)) ∧ w' = W := or2_ok x y b W h0 h1
/-- What the closure answers. -/
def cfE (x y : Int × Int × Int × Int × Int) : Int := orI (Lib.compareInt x.2.2.2.2 y.2.2.2.2) (Lib.compareInt x.1 y.1)
def encE (x : Int × Int × Int × Int × Int) : List Value := [.int .i64 x.1, .int .i64 x.2.1, .int .i64 x.2.2.1, .int .i64 x.2.2.2.1, .int .i64 x.2.2.2.2]

theorem wp_any {P : Program} {Q : Exit → Act → World → Prop} {id : Nat} {ops : Array Oper} {a : Act} {w : World} (hm : P.follows .mixedOrders = true) (I : Array Bool → Act → World → Prop)
    (hg : ∀ (i : Nat) (o : Oper), ops[i]? = some o → o.guard = none)
    (hcl : ((List.range ops.size).all fun i => match ops[i]? with | some o => o.after.all fun e => decide (e.on < i) | none => true) = true)
    (h0 : I (Array.replicate ops.size false) a { w with drawn := w.drawn + 1 })
    (hstep : ∀ (listed : Array Bool) (i : Nat) (o : Oper) (a : Act) (w : World), ops[i]? = some o → listed.size = ops.size → listed.getD i true = false → (∀ e ∈ o.after, Region.binds .any e = true → listed.getD e.on false = true) → I listed a w →
      o.wp P a w (fun a' w' => I (listed.setIfInBounds i true) a' w') Q)
    (hend : ∀ (listed : Array Bool) (a : Act) (w : World), listed.size = ops.size → (∀ j, j < ops.size → listed.getD j false = true) → I listed a w → Q .normal a w) :
    (Code.region id ops true).wp P Q a w := by
  refine wp_region_any hm (any_inv I ?_ hend ?_ ops.size _ a _ (by simp) (by
    refine Nat.le_trans (List.length_filter_le _ _) (by simp)) h0)
  · intro listed i o a w ho hs hl hd hI
    unfold wpOp
    simp only [ho]
    rw [if_pos (wanted_none (hg i o ho))]
    exact .inl (hstep listed i o a w ho hs hl hd hI)
  · intro i o ho e he hb
    rw [List.all_eq_true] at hcl
    have h1 := hcl i (List.mem_range.2 (Array.getElem?_eq_some_iff.1 ho).1)
    simp only [ho, Array.all_eq_true] at h1
    obtain ⟨j, hj, rfl⟩ := Array.getElem_of_mem he
    simpa using h1 j hj

def D36 : List Nat := [5, 6, 7, 8, 9, 10, 11, 12, 13, 14, 15, 16, 4]
theorem D36_inj : ∀ (i j d : Nat), D36[i]? = some d → D36[j]? = some d → i = j := by
  intro i j d hi hj
  have h1 := (List.getElem?_eq_some_iff.1 hi).1
  exact (List.getElem?_inj h1 (by decide)).1 (hi.trans hj.symm)

structure I36 (Wd : World) (o : Obj) (p q : Value) (V : List Value) (listed : Array Bool) (a : Act) (w : World) : Prop where
  size : a.tmps.size = 17
  p2 : a.tmps[2]? = some p
  p3 : a.tmps[3]? = some q
  vs : ∀ j d v, D36[j]? = some d → V[j]? = some v → listed.getD j false = true → a.tmps[d]? = some v
  wd : w = if listed.getD 10 false = true then Wd.alloc o else Wd
  ds : a.defers = []

theorem I36.put {Wd : World} {o : Obj} {p q : Value} {V : List Value} {listed : Array Bool} {a : Act} {w w' : World} (h : I36 Wd o p q V listed a w) (hls : listed.size = 13) (i d : Nat) (v : Value) (hi : D36[i]? = some d) (hv : V[i]? = some v)
    (hw : w' = if i = 10 then Wd.alloc o else w) : I36 Wd o p q V (listed.setIfInBounds i true) (a.put (some d) v) w' := by
  have hi13 : i < 13 := by
    have := (List.getElem?_eq_some_iff.1 hi).1
    simpa [D36] using this
  have hd : d < 17 ∧ d ≠ 2 ∧ d ≠ 3 := by
    have := List.mem_of_getElem? hi
    simp [D36] at this
    omega
  have hput : ∀ t, t ≠ d → (a.put (some d) v).tmps[t]? = a.tmps[t]? := by
    intro t ht
    simp only [Act.put]
    rw [Array.getElem?_setIfInBounds, if_neg (Ne.symm ht)]
  refine ⟨?_, ?_, ?_, ?_, ?_, h.ds⟩
  · simp only [Act.put, Array.size_setIfInBounds]; exact h.size
  · rw [hput 2 (by omega)]; exact h.p2
  · rw [hput 3 (by omega)]; exact h.p3
  · intro j d' v' hj hv' hl
    by_cases e : j = i
    · subst e
      rw [hi] at hj; cases hj
      rw [hv] at hv'; cases hv'
      simp only [Act.put]
      rw [Array.getElem?_setIfInBounds, if_pos rfl, if_pos (by rw [h.size]; exact hd.1)]
    · rw [getD_set_ne false (Ne.symm e)] at hl
      rw [hput d' (fun q => e (D36_inj _ _ _ hj (q ▸ hi)))]
      exact h.vs j d' v' hj hv' hl
  · rw [hw]
    by_cases e : i = 10
    · subst e
      rw [if_pos rfl, if_pos]
      simp [Array.getD, hls]
    · rw [if_neg e, getD_set_ne false e]
      exact h.wd

theorem new2 (W : World) (p q : Value) (s : Nat) (h : W.heap.size = s) : (W.alloc (.cells #[p, q] 3)).cell? ⟨s, 0, none⟩ = some p ∧ (W.alloc (.cells #[p, q] 3)).cell? ⟨s, 1, none⟩ = some q := by
  subst h
  have h : (W.alloc (.cells #[p, q] 3)).heap[W.heap.size]? = some (.cells #[p, q] 3) := by show (W.heap.push _)[W.heap.size]? = _; simp
  constructor
  · simp only [World.cell?, h]
    rfl
  · simp only [World.cell?, h]
    rfl

theorem st_fa {a : Act} {w : World} {s off : Nat} {b o : Nat} {o0 : Oper} (h : o0.op = .fieldAddr 51 (.tmp s) off) (h5 : off = 0 ∨ off = 4) (hs : a.tmps[s]? = some (.pointer (some ⟨b, o, none⟩))) : (execOp a.eval o0).run Try.prog w = .ok (.value (.pointer (some ⟨b, o + off, none⟩))) w := by
  have e : a.eval (.tmp s) = .pointer (some ⟨b, o, none⟩) := by simp [Act.eval, hs]
  have e1 := evFieldAddr_sound (P := Try.prog) cfg36_ok (t := 51) (f := off) (x := .ptr 0 b o) (y := .ptr 0 b (o + off)) (w := w) (by rcases h5 with rfl | rfl <;> simp [evFieldAddr, cfg36, lookT])
  simp only [den] at e1
  simp [execOp, h, e, e1]

theorem st_ld {a : Act} {w : World} {s : Nat} {b o : Nat} {x : Int} {o0 : Oper} (h : o0.op = .load 3 (.tmp s)) (hs : a.tmps[s]? = some (.pointer (some ⟨b, o, none⟩))) (hc : w.cell? ⟨b, o, none⟩ = some (.int .i64 x)) : (execOp a.eval o0).run Try.prog w = .ok (.value (.int .i64 x)) w := by
  have e : a.eval (.tmp s) = .pointer (some ⟨b, o, none⟩) := by simp [Act.eval, hs]
  have e1 := run_loadVar tok3 (l := [.v (.int .i64 x)]) (x := .v (.int .i64 x)) (b := b) (o := o) (w := w) rfl (fun j hj => by
    obtain rfl : j = 0 := (by simp at hj; omega)
    exact hc)
  simp only [den] at e1
  simp [execOp, h, e, Instr.loadAt, Instr.sureAddr, e1]
theorem st_cl {a : Act} {w : World} {f s t : Nat} {x y : Value} {ts} {o0 : Oper} (hg : Callable Try.prog f) (h : o0.op = .call { callee := Callee.value (Operand.func f), args := #[Operand.tmp s, Operand.tmp t], argTypes := ts }) (hs : a.tmps[s]? = some x) (ht : a.tmps[t]? = some y) : (execOp a.eval o0).run Try.prog w = .ok (.enter f #[x, y]) w := by
  have e : a.eval (.tmp s) = x := by simp [Act.eval, hs]
  have e1 : a.eval (.tmp t) = y := by simp [Act.eval, ht]
  have e2 : a.eval (.func f) = .func (.func f) #[] #[] := rfl
  simp [execOp, h, e, e1, e2, resolve, Deferred.ofValue, invoke, run_callFunc hg]
theorem st_c1 {a : Act} {w : World} {f s : Nat} {x : Value} {ts} {o0 : Oper} (hg : Callable Try.prog f) (h : o0.op = .call { callee := Callee.value (Operand.func f), args := #[Operand.tmp s], argTypes := ts }) (hs : a.tmps[s]? = some x) : (execOp a.eval o0).run Try.prog w = .ok (.enter f #[x]) w := by
  have e : a.eval (.tmp s) = x := by simp [Act.eval, hs]
  have e2 : a.eval (.func f) = .func (.func f) #[] #[] := rfl
  simp [execOp, h, e, e2, resolve, Deferred.ofValue, invoke, run_callFunc hg]
theorem st_bs {a : Act} {w : World} {s t : Nat} {x y : Int} {o0 : Oper} (h : o0.op = .buildSlice 26 2 #[(0, Operand.tmp s), (1, Operand.tmp t)]) (hs : a.tmps[s]? = some (.int .i64 x)) (ht : a.tmps[t]? = some (.int .i64 y)) : (execOp a.eval o0).run Try.prog w = .ok (.value (.slice (some ⟨w.heap.size, 0, none⟩) 2 2)) (w.alloc (.cells #[.int .i64 x, .int .i64 y] 3)) := by
  have e : a.eval (.tmp s) = .int .i64 x := by simp [Act.eval, hs]
  have e1 : a.eval (.tmp t) = .int .i64 y := by simp [Act.eval, ht]
  have hu := tok26.slice rfl
  have hs3 := run_sizeOf' tok3
  have hz3 := run_zeroValue' tok3
  have hp : (#[(0, Operand.tmp s), (1, Operand.tmp t)] : Array (Nat × Operand)).map (fun (i, x) => (i, a.eval x)) = #[(0, .int .i64 x), (1, .int .i64 y)] := by simp [e, e1]
  simp only [execOp, h, hp, Instr.buildSlice, Sem.run_bind, run_underlying hu, Result.andThen_ok, hs3, hz3]
  rw [if_neg (by omega), if_neg (by omega)]
  have hf : ∀ z : Array Value, z.size = 2 → Instr.fill (fun i => some (i * 1, 1)) z [(0, .int .i64 x), (1, .int .i64 y)] = some #[.int .i64 x, .int .i64 y] := by
    intro z hz
    have h1 := evFill_sound (places := fun i => some (i * 1, 1)) [(0, .v (.int .i64 x)), (1, .v (.int .i64 y))] (z.toList.map .v) [.v (.int .i64 x), .v (.int .i64 y)] (by
      have := fill_rows (sz := 1) [.v (.int .i64 x), .v (.int .i64 y)] [] 0 (z.toList.map .v) (by simp [SV.cells]) (by simp) (by simp [hz])
      exact this)
    rw [denL_map_v, Array.toArray_toList] at h1
    exact h1
  have hf2 := hf (Array.map (fun x => (Value.int IntKind.i64 0).cells[x % (Value.int IntKind.i64 0).cells.size]!) (Array.range (2 * 1))) (by simp)
  simp only [Sem.run_bind, hz3, Result.andThen_ok, Sem.run_pure, hf2, newRow, newObj, Sem.run]
  rfl

theorem st_as {a : Act} {w : World} {s : Nat} {x : Value} {o0 : Oper} (h : o0.op = .assign (.tmp s)) (hs : a.tmps[s]? = some x) : (execOp a.eval o0).run Try.prog w = .ok (.value x) w := by
  have e : a.eval (.tmp s) = x := by simp [Act.eval, hs]
  simp [execOp, h, e]

theorem I36.cell {Wd : World} {o : Obj} {p q : Value} {V : List Value} {listed : Array Bool} {a : Act} {w : World} (h : I36 Wd o p q V listed a w) {b i : Nat} {v : Value} (hb : b < Wd.heap.size) (hc : Wd.cell? ⟨b, i, none⟩ = some v) : w.cell? ⟨b, i, none⟩ = some v := by
  rw [h.wd]
  split
  · have h : (Wd.alloc o).heap[b]? = Wd.heap[b]? := Below.heap_alloc _ _ _ hb
    simp only [World.cell?, h] at hc ⊢
    exact hc
  · exact hc

theorem call38 : Callable Try.prog 38 := ⟨_, Try.func38, by kernel_rfl, by kernel_rfl⟩
theorem call37 : Callable Try.prog 37 := ⟨_, Try.func37, by kernel_rfl, by kernel_rfl⟩

set_option maxRecDepth 100000 in
set_option maxHeartbeats 4000000 in
theorem closure36 (x y : Int × Int × Int × Int × Int) (W : World) : Calls Try.prog 36 #[.agg (encE x).toArray, .agg (encE y).toArray] W fun e w' => e = .returned (.int .i64 (cfE x y)) ∧ ∃ q os', w' = grow (W.drewN q) os' := by
  have hcon := fun x y W' => AnyG.cmp_Compare_int Try.cmpInt x y W'
  change ∀ x y W', Calls Try.prog 38 _ _ _ at hcon
  obtain ⟨x0, x1, x2, x3, x4⟩ := x
  obtain ⟨y0, y1, y2, y3, y4⟩ := y
  unfold cfE encE
  dsimp only
  generalize Lib.compareInt = C at hcon ⊢
  go_enter Try.func36, Try.ntmps36
  go_wp2
  have a0 : ((W.alloc (Obj.cells #[Value.int IntKind.i64 x0, Value.int IntKind.i64 x1, Value.int IntKind.i64 x2, Value.int IntKind.i64 x3, Value.int IntKind.i64 x4] 51)).alloc (Obj.cells #[Value.int IntKind.i64 y0, Value.int IntKind.i64 y1, Value.int IntKind.i64 y2, Value.int IntKind.i64 y3, Value.int IntKind.i64 y4] 51)) = grow W #[Obj.cells #[Value.int IntKind.i64 x0, Value.int IntKind.i64 x1, Value.int IntKind.i64 x2, Value.int IntKind.i64 x3, Value.int IntKind.i64 x4] 51, Obj.cells #[Value.int IntKind.i64 y0, Value.int IntKind.i64 y1, Value.int IntKind.i64 y2, Value.int IntKind.i64 y3, Value.int IntKind.i64 y4] 51] := by rw [alloc_eq_grow, alloc_eq_grow, grow_grow]; rfl
  have hnew : ∀ (W : World) (o : Obj), (W.alloc o).heap[W.heap.size]? = some o := fun W o => by show (W.heap.push _)[W.heap.size]? = _; simp
  have b0 : ∀ i v, #[Value.int IntKind.i64 x0, Value.int IntKind.i64 x1, Value.int IntKind.i64 x2, Value.int IntKind.i64 x3, Value.int IntKind.i64 x4][i]? = some v → ((W.alloc (Obj.cells #[Value.int IntKind.i64 x0, Value.int IntKind.i64 x1, Value.int IntKind.i64 x2, Value.int IntKind.i64 x3, Value.int IntKind.i64 x4] 51)).alloc (Obj.cells #[Value.int IntKind.i64 y0, Value.int IntKind.i64 y1, Value.int IntKind.i64 y2, Value.int IntKind.i64 y3, Value.int IntKind.i64 y4] 51)).cell? ⟨W.heap.size, i, none⟩ = some v := fun i v hv => by
    have h : ((W.alloc (Obj.cells #[Value.int IntKind.i64 x0, Value.int IntKind.i64 x1, Value.int IntKind.i64 x2, Value.int IntKind.i64 x3, Value.int IntKind.i64 x4] 51)).alloc (Obj.cells #[Value.int IntKind.i64 y0, Value.int IntKind.i64 y1, Value.int IntKind.i64 y2, Value.int IntKind.i64 y3, Value.int IntKind.i64 y4] 51)).heap[W.heap.size]? = _ := (Below.heap_alloc _ _ _ (by simp)).trans (hnew W _)
    simp only [World.cell?, h]
    simpa using hv
  have b1 : ∀ i v, #[Value.int IntKind.i64 y0, Value.int IntKind.i64 y1, Value.int IntKind.i64 y2, Value.int IntKind.i64 y3, Value.int IntKind.i64 y4][i]? = some v → ((W.alloc (Obj.cells #[Value.int IntKind.i64 x0, Value.int IntKind.i64 x1, Value.int IntKind.i64 x2, Value.int IntKind.i64 x3, Value.int IntKind.i64 x4] 51)).alloc (Obj.cells #[Value.int IntKind.i64 y0, Value.int IntKind.i64 y1, Value.int IntKind.i64 y2, Value.int IntKind.i64 y3, Value.int IntKind.i64 y4] 51)).cell? ⟨W.heap.size + 1, i, none⟩ = some v := fun i v hv => by
    have h := hnew (W.alloc (Obj.cells #[Value.int IntKind.i64 x0, Value.int IntKind.i64 x1, Value.int IntKind.i64 x2, Value.int IntKind.i64 x3, Value.int IntKind.i64 x4] 51)) (Obj.cells #[Value.int IntKind.i64 y0, Value.int IntKind.i64 y1, Value.int IntKind.i64 y2, Value.int IntKind.i64 y3, Value.int IntKind.i64 y4] 51)
    rw [World.size_alloc] at h
    simp only [World.cell?, h]
    simpa using hv
  have c0 := b0 0 _ rfl
  have c4 := b0 4 _ rfl
  have d0 := b1 0 _ rfl
  have d4 := b1 4 _ rfl
  clear b0 b1
  have hsz : ((W.alloc (Obj.cells #[Value.int IntKind.i64 x0, Value.int IntKind.i64 x1, Value.int IntKind.i64 x2, Value.int IntKind.i64 x3, Value.int IntKind.i64 x4] 51)).alloc (Obj.cells #[Value.int IntKind.i64 y0, Value.int IntKind.i64 y1, Value.int IntKind.i64 y2, Value.int IntKind.i64 y3, Value.int IntKind.i64 y4] 51)).heap.size = W.heap.size + 2 := by simp
  generalize ((W.alloc (Obj.cells #[Value.int IntKind.i64 x0, Value.int IntKind.i64 x1, Value.int IntKind.i64 x2, Value.int IntKind.i64 x3, Value.int IntKind.i64 x4] 51)).alloc (Obj.cells #[Value.int IntKind.i64 y0, Value.int IntKind.i64 y1, Value.int IntKind.i64 y2, Value.int IntKind.i64 y3, Value.int IntKind.i64 y4] 51)) = W2 at *
  obtain ⟨os2, ha0⟩ : ∃ os2, W2 = grow W os2 := ⟨_, a0⟩
  clear a0 hnew
  obtain ⟨b, hb⟩ : ∃ b, b = W.heap.size := ⟨_, rfl⟩
  rw [← hb] at c0 c4 d0 d4 hsz ⊢
  have hb0 : b < W2.drew.heap.size := by show b < W2.heap.size; omega
  have hb1 : b + 1 < W2.drew.heap.size := by show b + 1 < W2.heap.size; omega
  rename_i Q' K hK
  refine wp_any mixed (I36 W2.drew (.cells #[.int .i64 (C x4 y4), .int .i64 (C x0 y0)] 3) (.pointer (some ⟨b, 0, none⟩)) (.pointer (some ⟨b + 1, 0, none⟩)) [.pointer (some ⟨b, 0 + 4, none⟩), .int .i64 x4, .pointer (some ⟨b + 1, 0 + 4, none⟩), .int .i64 y4, .int .i64 (C x4 y4), .pointer (some ⟨b, 0 + 0, none⟩), .int .i64 x0, .pointer (some ⟨b + 1, 0 + 0, none⟩), .int .i64 y0, .int .i64 (C x0 y0), .slice (some ⟨b + 2, 0, none⟩) 2 2, .int .i64 (orI (C x4 y4) (C x0 y0)), .int .i64 (orI (C x4 y4) (C x0 y0))]) ?_ (by kernel_rfl) ?_ ?_ ?_
  · intro i o ho
    have hi : i < 13 := (Array.getElem?_eq_some_iff.1 ho).1
    obtain rfl | rfl | rfl | rfl | rfl | rfl | rfl | rfl | rfl | rfl | rfl | rfl | rfl : i = 0 ∨ i = 1 ∨ i = 2 ∨ i = 3 ∨ i = 4 ∨ i = 5 ∨ i = 6 ∨ i = 7 ∨ i = 8 ∨ i = 9 ∨ i = 10 ∨ i = 11 ∨ i = 12 := by omega
    all_goals (cases ho; rfl)
  · exact ⟨rfl, rfl, rfl, fun j d v _ _ hl => by simp [Array.getD] at hl, rfl, rfl⟩
  · intro listed i o a w ho hs hl hd hI
    have hi : i < 13 := (Array.getElem?_eq_some_iff.1 ho).1
    have hs' : listed.size = 13 := hs
    obtain rfl | rfl | rfl | rfl | rfl | rfl | rfl | rfl | rfl | rfl | rfl | rfl | rfl : i = 0 ∨ i = 1 ∨ i = 2 ∨ i = 3 ∨ i = 4 ∨ i = 5 ∨ i = 6 ∨ i = 7 ∨ i = 8 ∨ i = 9 ∨ i = 10 ∨ i = 11 ∨ i = 12 := by omega
    · have hop : o.op = .fieldAddr 51 (.tmp 2) 4 := by cases ho; rfl
      have hds : o.dst = some 5 := by cases ho; rfl
      clear ho
      have e1 := st_fa (a := a) (w := w) hop (.inr rfl) hI.p2
      unfold Oper.wp
      rw [e1]
      simp only [Oper.upon]
      rw [hds]
      exact hI.put hs' 0 5 _ rfl rfl rfl
    · have hop : o.op = .load 3 (.tmp 5) := by cases ho; rfl
      have hds : o.dst = some 6 := by cases ho; rfl
      have l0 : listed.getD 0 false = true := hd ⟨0, .data⟩ (by cases ho; simp) rfl
      have v0 := hI.vs 0 5 _ rfl rfl l0
      clear ho
      have e1 := st_ld hop v0 (hI.cell hb0 c4)
      unfold Oper.wp
      rw [e1]
      simp only [Oper.upon]
      rw [hds]
      exact hI.put hs' 1 6 _ rfl rfl rfl
    · have hop : o.op = .fieldAddr 51 (.tmp 3) 4 := by cases ho; rfl
      have hds : o.dst = some 7 := by cases ho; rfl
      clear ho
      have e1 := st_fa (a := a) (w := w) hop (.inr rfl) hI.p3
      unfold Oper.wp
      rw [e1]
      simp only [Oper.upon]
      rw [hds]
      exact hI.put hs' 2 7 _ rfl rfl rfl
    · have hop : o.op = .load 3 (.tmp 7) := by cases ho; rfl
      have hds : o.dst = some 8 := by cases ho; rfl
      have l2 : listed.getD 2 false = true := hd ⟨2, .data⟩ (by cases ho; simp) rfl
      have v0 := hI.vs 2 7 _ rfl rfl l2
      clear ho
      have e1 := st_ld hop v0 (hI.cell hb1 d4)
      unfold Oper.wp
      rw [e1]
      simp only [Oper.upon]
      rw [hds]
      exact hI.put hs' 3 8 _ rfl rfl rfl
    · have hop : o.op = .call { callee := .value (.func 38), args := #[.tmp 6, .tmp 8], argTypes := #[3, 3] } := by cases ho; rfl
      have hds : o.dst = some 9 := by cases ho; rfl
      have l1 : listed.getD 1 false = true := hd ⟨1, .data⟩ (by cases ho; simp) rfl
      have v0 := hI.vs 1 6 _ rfl rfl l1
      have l3 : listed.getD 3 false = true := hd ⟨3, .data⟩ (by cases ho; simp) rfl
      have v1 := hI.vs 3 8 _ rfl rfl l3
      clear ho
      have e1 := st_cl (w := w) call38 hop v0 v1
      unfold Oper.wp
      rw [e1]
      simp only [Oper.upon]
      refine (hcon _ _ _).mono ?_
      rintro e w' ⟨rfl, rfl⟩
      dsimp only
      rw [hds]
      exact hI.put hs' 4 9 _ rfl rfl rfl
    · have hop : o.op = .fieldAddr 51 (.tmp 2) 0 := by cases ho; rfl
      have hds : o.dst = some 10 := by cases ho; rfl
      clear ho
      have e1 := st_fa (a := a) (w := w) hop (.inl rfl) hI.p2
      unfold Oper.wp
      rw [e1]
      simp only [Oper.upon]
      rw [hds]
      exact hI.put hs' 5 10 _ rfl rfl rfl
    · have hop : o.op = .load 3 (.tmp 10) := by cases ho; rfl
      have hds : o.dst = some 11 := by cases ho; rfl
      have l5 : listed.getD 5 false = true := hd ⟨5, .data⟩ (by cases ho; simp) rfl
      have v0 := hI.vs 5 10 _ rfl rfl l5
      clear ho
      have e1 := st_ld hop v0 (hI.cell hb0 c0)
      unfold Oper.wp
      rw [e1]
      simp only [Oper.upon]
      rw [hds]
      exact hI.put hs' 6 11 _ rfl rfl rfl
    · have hop : o.op = .fieldAddr 51 (.tmp 3) 0 := by cases ho; rfl
      have hds : o.dst = some 12 := by cases ho; rfl
      clear ho
      have e1 := st_fa (a := a) (w := w) hop (.inl rfl) hI.p3
      unfold Oper.wp
      rw [e1]
      simp only [Oper.upon]
      rw [hds]
      exact hI.put hs' 7 12 _ rfl rfl rfl
    · have hop : o.op = .load 3 (.tmp 12) := by cases ho; rfl
      have hds : o.dst = some 13 := by cases ho; rfl
      have l7 : listed.getD 7 false = true := hd ⟨7, .data⟩ (by cases ho; simp) rfl
      have v0 := hI.vs 7 12 _ rfl rfl l7
      clear ho
      have e1 := st_ld hop v0 (hI.cell hb1 d0)
      unfold Oper.wp
      rw [e1]
      simp only [Oper.upon]
      rw [hds]
      exact hI.put hs' 8 13 _ rfl rfl rfl
    · have hop : o.op = .call { callee := .value (.func 38), args := #[.tmp 11, .tmp 13], argTypes := #[3, 3] } := by cases ho; rfl
      have hds : o.dst = some 14 := by cases ho; rfl
      have l6 : listed.getD 6 false = true := hd ⟨6, .data⟩ (by cases ho; simp) rfl
      have v0 := hI.vs 6 11 _ rfl rfl l6
      have l8 : listed.getD 8 false = true := hd ⟨8, .data⟩ (by cases ho; simp) rfl
      have v1 := hI.vs 8 13 _ rfl rfl l8
      clear ho
      have e1 := st_cl (w := w) call38 hop v0 v1
      unfold Oper.wp
      rw [e1]
      simp only [Oper.upon]
      refine (hcon _ _ _).mono ?_
      rintro e w' ⟨rfl, rfl⟩
      dsimp only
      rw [hds]
      exact hI.put hs' 9 14 _ rfl rfl rfl
    · have hop : o.op = .buildSlice 26 2 #[(0, .tmp 9), (1, .tmp 14)] := by cases ho; rfl
      have hds : o.dst = some 15 := by cases ho; rfl
      have l4 : listed.getD 4 false = true := hd ⟨4, .data⟩ (by cases ho; simp) rfl
      have v0 := hI.vs 4 9 _ rfl rfl l4
      have l9 : listed.getD 9 false = true := hd ⟨9, .data⟩ (by cases ho; simp) rfl
      have v1 := hI.vs 9 14 _ rfl rfl l9
      clear ho
      have hw : w = W2.drew := hI.wd.trans (if_neg (by
        have : listed.getD 10 true = false := hl
        simp [Array.getD, hs'] at this ⊢
        exact this))
      have e1 := st_bs (w := w) hop v0 v1
      unfold Oper.wp
      rw [e1]
      simp only [Oper.upon]
      rw [hds]
      have e2 : w.heap.size = b + 2 := by rw [hw]; exact hsz
      rw [e2]
      exact hI.put hs' 10 15 _ rfl rfl (by rw [hw]; rfl)
    · have hop : o.op = .call { callee := .value (.func 37), args := #[.tmp 15], argTypes := #[26] } := by cases ho; rfl
      have hds : o.dst = some 16 := by cases ho; rfl
      have l10 : listed.getD 10 false = true := hd ⟨10, .data⟩ (by cases ho; simp) rfl
      have v0 := hI.vs 10 15 _ rfl rfl l10
      clear ho
      have e1 := st_c1 (w := w) call37 hop v0
      unfold Oper.wp
      rw [e1]
      simp only [Oper.upon]
      have hw : w = W2.drew.alloc (.cells #[.int .i64 (C x4 y4), .int .i64 (C x0 y0)] 3) := hI.wd.trans (if_pos l10)
      refine (or2_okI (C x4 y4) (C x0 y0) (b + 2) w (by rw [hw]; exact (new2 W2.drew _ _ _ hsz).1) (by rw [hw]; exact (new2 W2.drew _ _ _ hsz).2)).mono ?_
      rintro e w' ⟨rfl, rfl⟩
      dsimp only
      rw [hds]
      exact hI.put hs' 11 16 _ rfl rfl rfl
    · have hop : o.op = .assign (.tmp 16) := by cases ho; rfl
      have hds : o.dst = some 4 := by cases ho; rfl
      have l11 : listed.getD 11 false = true := hd ⟨11, .data⟩ (by cases ho; simp) rfl
      have v0 := hI.vs 11 16 _ rfl rfl l11
      clear ho
      have e1 := st_as (w := w) hop v0
      unfold Oper.wp
      rw [e1]
      simp only [Oper.upon]
      rw [hds]
      exact hI.put hs' 12 4 _ rfl rfl rfl
  · intro listed a w hs hall hI
    have v4 := hI.vs 12 4 _ rfl rfl (hall 12 (by show 12 < 13; omega))
    have hw := hI.wd
    rw [if_pos (hall 10 (by show 10 < 13; omega))] at hw
    clear hs hall
    refine hK a w ?_
    refine wp_ret ?_
    refine (bodyPost_of (fn := Try.f36) hI.ds (results_tmp (t := 4) rfl _ _ _) ?_).1
    have e4 : a.tmps.getD 4 undef = .int .i64 (orI (C x4 y4) (C x0 y0)) := by rw [Array.getD_eq_getD_getElem?, v4]; rfl
    rw [e4, hw, alloc_eq_grow, ha0, drew_grow, grow_grow]
    exact ⟨rfl, 1, _, rfl⟩
end Go.Proofs
