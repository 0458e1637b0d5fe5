/- Slices as lists of things: one that is read, one of one's own. Holds for every program. -/
import Derived.Test.YtnmjdelnllchdaaSxC
import Derived.Test.YtnmjdelnllchdaaSxJ
import Derived.Test.YtnmjdelnllchdaaSxK
import Derived.Test.YtnmjdelnllchdaaSxM
namespace Go.SX
set_option linter.unusedVariables false
set_option linter.unusedSimpArgs false
set_option linter.unusedSectionVars false
open Go Go.RowKit

/-- The thing in a place of a list. -/
def nth {α : Type} (d : α) (L : List α) (j : Nat) : α := L.getD j d
theorem nth_lt {α : Type} {d : α} {L : List α} {j : Nat} (h : j < L.length) : nth d L j = L[j] := by simp [nth, h]
theorem nth_get {α : Type} {d x : α} {L : List α} {j : Nat} (h : L[j]? = some x) : nth d L j = x := by simp [nth, h]
theorem get_nth {α : Type} {d : α} {L : List α} {j : Nat} (h : j < L.length) : L[j]? = some (nth d L j) := by rw [nth_lt h]; exact List.getElem?_eq_getElem h
theorem nth_mem {α : Type} {d : α} {L : List α} {j : Nat} (h : j < L.length) : nth d L j ∈ L := by rw [nth_lt h]; exact List.getElem_mem h
theorem drop_nth {α : Type} {d : α} {L : List α} {j : Nat} (h : j < L.length) : L.drop j = nth d L j :: L.drop (j + 1) := by rw [nth_lt h]; exact List.drop_eq_getElem_cons h
theorem take_nth {α : Type} {d : α} {L : List α} {j : Nat} (h : j < L.length) : L.take (j + 1) = L.take j ++ [nth d L j] := by rw [nth_lt h]; simp
theorem nth_append_left {α : Type} {d : α} {L M : List α} {j : Nat} (h : j < L.length) : nth d (L ++ M) j = nth d L j := by simp [nth, List.getElem?_append_left h, h]
theorem nth_append_right {α : Type} {d : α} {L M : List α} {j : Nat} : nth d (L ++ M) (L.length + j) = nth d M j := by simp [nth, List.getElem?_append_right]
theorem nth_part {α : Type} {d : α} {L : List α} {i n j : Nat} (h : j < n) : nth d ((L.drop i).take n) j = nth d L (i + j) := by simp [nth, List.getD_eq_getElem?_getD, h]

section
variable {α : Type} {enc : α → List SV} {sz : Nat} {d : α} {P P' : Nat → Prop} {w w' : World} {v : Value} {L : List α}

/-- A slice of things that is read. -/
def RdS (enc : α → List SV) (sz : Nat) (d : α) (P : Nat → Prop) (w : World) (v : Value) (L : List α) : Prop :=
  (L = [] ∧ ∃ ad cap, v = .slice ad 0 cap) ∨
  (0 < L.length ∧ ∃ (b o0 cap : Nat) (u : TypeId) (fz : Nat × Nat), P b ∧ v = .slice (some ⟨b, o0, none⟩) L.length cap ∧ (SO.arr o0 L.length (fun j => enc (nth d L j)) sz u fz).rep w b ∧ L.length ≤ cap)

/-- A slice of things of one's own: it may be written, and appended to. -/
def OwS (enc : α → List SV) (sz : Nat) (d : α) (P : Nat → Prop) (w : World) (v : Value) (L : List α) : Prop :=
  (L = [] ∧ ∃ ad, v = .slice ad 0 0) ∨
  (∃ (b N cap : Nat) (u : TypeId) (row : Nat → List SV), P b ∧ v = .slice (some ⟨b, 0, none⟩) L.length cap ∧ 0 < cap ∧ L.length ≤ cap ∧ cap ≤ N ∧ (SO.arr 0 N row sz u (0, 0)).rep w b ∧ ∀ j, j < L.length → row j = enc (nth d L j))

theorem RdS.slice (h : RdS enc sz d P w v L) : ∃ ad cap, v = .slice ad L.length cap := by
  rcases h with ⟨rfl, ad, cap, rfl⟩ | ⟨_, b, o0, cap, u, fz, _, rfl, _⟩
  · exact ⟨ad, cap, rfl⟩
  · exact ⟨_, cap, rfl⟩

theorem RdS.opn (h : RdS enc sz d P w v L) {k : Nat} (hk : k < L.length) : ∃ (b o0 cap : Nat) (u : TypeId) (fz : Nat × Nat), P b ∧ v = .slice (some ⟨b, o0, none⟩) L.length cap ∧ (SO.arr o0 L.length (fun j => enc (nth d L j)) sz u fz).rep w b := by
  rcases h with ⟨rfl, _⟩ | ⟨_, h⟩
  · simp at hk
  · obtain ⟨b, o0, cap, u, fz, h1, h2, h3, _⟩ := h
    exact ⟨b, o0, cap, u, fz, h1, h2, h3⟩

theorem RdS.cap (h : RdS enc sz d P w v L) {ad : Option Addr} {n cap : Nat} (hv : v = .slice ad n cap) : L.length ≤ cap := by
  rcases h with ⟨rfl, _⟩ | ⟨_, b, o0, cap', u, fz, _, e, _, h⟩
  · simp
  · rw [hv] at e; cases e; exact h

theorem OwS.slice (h : OwS enc sz d P w v L) : ∃ ad cap, v = .slice ad L.length cap := by
  rcases h with ⟨rfl, ad, rfl⟩ | ⟨b, N, cap, u, row, _, rfl, _⟩
  · exact ⟨ad, 0, rfl⟩
  · exact ⟨_, cap, rfl⟩

theorem OwS.rd (h : OwS enc sz d P w v L) : RdS enc sz d P w v L := by
  rcases h with ⟨rfl, ad, rfl⟩ | ⟨b, N, cap, u, row, hP, rfl, h0, h1, h2, h3, h4⟩
  · exact .inl ⟨rfl, ad, 0, rfl⟩
  · rcases Nat.eq_zero_or_pos L.length with h | h
    · have : L = [] := List.length_eq_zero_iff.1 h
      subst this
      exact .inl ⟨rfl, _, _, rfl⟩
    · exact .inr ⟨h, b, 0, cap, u, (0, 0), hP, rfl, rep_arr_sub h3 (by omega) (fun j hj => by rw [h4 j hj]), h1⟩

theorem OwS.opn (h : OwS enc sz d P w v L) {k : Nat} (hk : k < L.length) : ∃ (b N cap : Nat) (u : TypeId) (row : Nat → List SV), P b ∧ v = .slice (some ⟨b, 0, none⟩) L.length cap ∧ 0 < cap ∧ L.length ≤ cap ∧ cap ≤ N ∧ (SO.arr 0 N row sz u (0, 0)).rep w b ∧ ∀ j, j < L.length → row j = enc (nth d L j) := by
  rcases h with ⟨rfl, _⟩ | h
  · simp at hk
  · exact h

theorem RdS.keep {M : List Nat} (h : RdS enc sz d P w v L) (hk : KeepsTo w M w') (hM : ∀ x ∈ M, ¬ P x) : RdS enc sz d P w' v L := by
  rcases h with h | ⟨h0, b, o0, cap, u, fz, hP, h1, h2, h3⟩
  · exact .inl h
  · exact .inr ⟨h0, b, o0, cap, u, fz, hP, h1, (hk.same h2 fun hm => hM b hm hP), h3⟩
theorem OwS.keep {M : List Nat} (h : OwS enc sz d P w v L) (hk : KeepsTo w M w') (hM : ∀ x ∈ M, ¬ P x) : OwS enc sz d P w' v L := by
  rcases h with h | ⟨b, N, cap, u, row, hP, h1, h2, h3, h4, h5, h6⟩
  · exact .inl h
  · exact .inr ⟨b, N, cap, u, row, hP, h1, h2, h3, h4, hk.same h5 fun hm => hM b hm hP, h6⟩
theorem RdS.below (h : RdS enc sz d P w v L) (hb : Below w.heap.size w w') : RdS enc sz d P w' v L := h.keep (KeepsTo.below hb []) (by simp)
theorem OwS.below (h : OwS enc sz d P w v L) (hb : Below w.heap.size w w') : OwS enc sz d P w' v L := h.keep (KeepsTo.below hb []) (by simp)
theorem RdS.mono (h : RdS enc sz d P w v L) (hP : ∀ x, x < w.heap.size → P x → P' x) : RdS enc sz d P' w v L := by
  rcases h with h | ⟨h0, b, o0, cap, u, fz, hp, h1, h2, h3⟩
  · exact .inl h
  · exact .inr ⟨h0, b, o0, cap, u, fz, hP b (SO.rep_lt h2) hp, h1, h2, h3⟩
theorem OwS.mono (h : OwS enc sz d P w v L) (hP : ∀ x, x < w.heap.size → P x → P' x) : OwS enc sz d P' w v L := by
  rcases h with h | ⟨b, N, cap, u, row, hp, h1, h2, h3, h4, h5, h6⟩
  · exact .inl h
  · exact .inr ⟨b, N, cap, u, row, hP b (SO.rep_lt h5) hp, h1, h2, h3, h4, h5, h6⟩

/-- A part of a slice. -/
theorem RdS.part {b o0 n base len cap : Nat} {u : TypeId} {fz : Nat × Nat} (hP : P b) (hn : n = L.length) (h : (SO.arr o0 n (fun j => enc (nth d L j)) sz u fz).rep w b) (hl : base + len ≤ L.length) (hc : len ≤ cap) :
    RdS enc sz d P w (.slice (some ⟨b, o0 + base * sz, none⟩) len cap) ((L.drop base).take len) := by
  subst hn
  have hlen : ((L.drop base).take len).length = len := by simp; omega
  rcases Nat.eq_zero_or_pos len with rfl | h0
  · exact .inl ⟨by simp, _, _, rfl⟩
  · refine .inr ⟨by omega, b, o0 + base * sz, cap, u, fz, hP, by rw [hlen], ?_, by rw [hlen]; exact hc⟩
    obtain ⟨c, h1, h2, h3⟩ := h
    refine ⟨c, h1, ?_, fun j hj => ?_⟩
    · rw [hlen]
      have : (base + len) * sz ≤ L.length * sz := Nat.mul_le_mul_right _ hl
      rw [Nat.add_mul] at this
      omega
    · rw [hlen] at hj
      obtain ⟨h4, h5⟩ := h3 (base + j) (by omega)
      simp only [nth_part hj]
      refine ⟨h4, fun s hs => ?_⟩
      rw [← h5 s hs]
      congr 1
      rw [Nat.add_mul]; omega
end

theorem HpAll.take {F : Fr} {w : World} : ∀ {H : Hp} (n : Nat), HpAll F w H → HpAll F w (H.take n)
  | [], n, _ => by simp [HpAll]
  | _ :: _, 0, _ => trivial
  | (b, m, o) :: H, n + 1, h => ⟨⟨h.1.1, h.1.2.1, fun e he => h.1.2.2 e (List.mem_of_mem_take he)⟩, HpAll.take n h.2⟩
theorem HpAll.drop {F : Fr} {w : World} : ∀ {H : Hp} (n : Nat), HpAll F w H → HpAll F w (H.drop n)
  | _, 0, h => h
  | [], n + 1, _ => trivial
  | _ :: _, n + 1, h => HpAll.drop n h.2

/-! ### clear of rows from a place on -/
theorem run_clearAt {P : Program} {w : World} {t e ty : TypeId} {te : TI} {b o n cap u : Nat} {c : Array Value} (ht : P.underlying t = some (.slice e)) (hz : ∀ w, (zeroValue e).run P w = .ok te.zero w) (hb : w.heap[b]? = some (.cells c u (0, 0)))
    (hsz : o + (Builtin.zeroCells te.zero.cells n).size ≤ c.size) (hna : ∀ v ∈ (Builtin.zeroCells te.zero.cells n).toList, NotAgg v) :
    (Builtin.clear_ #[t] ty #[.slice (some ⟨b, o, none⟩) n cap]).run P w = .ok (.tuple #[]) (putBlk w b (.cells (putAll c o (Builtin.zeroCells te.zero.cells n).toList) u (0, 0))) := by
  rcases Nat.eq_zero_or_pos n with rfl | h0
  · have e1 : (Builtin.zeroCells te.zero.cells 0).toList = [] := by
      have : (Builtin.zeroCells te.zero.cells 0).size = 0 := by simp [Builtin.zeroCells]
      exact List.length_eq_zero_iff.1 (by simpa using this)
    rw [e1]
    simp only [putAll, putBlk_self hb]
    simp [Builtin.clear_, run_underlying ht]
  · have hst := run_storeCells (P := P) (Builtin.zeroCells te.zero.cells n).toList w c o 0 hb (by simpa using hsz) hna
    obtain ⟨m, rfl⟩ : ∃ m, n = m + 1 := ⟨n - 1, by omega⟩
    simp [Builtin.clear_, run_underlying ht, hz, hst]

/-- Rows that are written over from a place on. -/
theorem ArrRep.over {c : Array Value} {N base n : Nat} {row : Nat → List SV} {sz : Nat} {z : Array Value} (h : ArrRep c 0 N row sz) (hz : z.size = sz) (hn : base + n ≤ N) :
    ArrRep (putAll c (base * sz) (Builtin.zeroCells z n).toList) 0 N (fun q => if base ≤ q ∧ q < base + n then cellsV' z else row q) sz := by
  have l2 : (Builtin.zeroCells z n).toList.length = n * sz := by simp [Builtin.zeroCells, hz]
  have hfit : base * sz + (Builtin.zeroCells z n).toList.length ≤ c.size := by
    rw [l2, ← Nat.add_mul]
    have h2 : (base + n) * sz ≤ N * sz := Nat.mul_le_mul_right _ hn
    have := h.1
    omega
  refine ⟨by rw [putAll_size]; exact h.1, fun j hj => ?_⟩
  obtain ⟨h4, h5⟩ := h.2 j hj
  simp only [Nat.zero_add] at h5 ⊢
  by_cases hj1 : base ≤ j ∧ j < base + n
  · rw [if_pos hj1]
    refine ⟨by simp [cellsV', hz], fun s hs => ?_⟩
    have hb := idx_bound (sz := sz) (show j - base < n by omega)
    have e2 : j * sz = base * sz + (j - base) * sz := by rw [← Nat.add_mul]; congr 1; omega
    rw [putAll_get _ _ _ _ hfit, if_pos (by rw [l2]; omega)]
    have e3 : j * sz + s - base * sz = (j - base) * sz + s := by omega
    rw [e3, Array.getElem?_toList, zeroCells_get (by rw [hz]; omega), hz]
    have e5 : ((j - base) * sz + s) % sz = s := by rw [Nat.mul_comm, Nat.mul_add_mod]; exact Nat.mod_eq_of_lt hs
    rw [e5]
    simp [cellsV', denL_map_v]
  · rw [if_neg hj1]
    refine ⟨h4, fun s hs => ?_⟩
    rw [putAll_get _ _ _ _ hfit, if_neg ?_]
    · exact h5 s hs
    · rw [l2]
      rintro ⟨g1, g2⟩
      apply hj1
      have hsz : 0 < sz := by omega
      refine ⟨?_, ?_⟩
      · rcases Nat.lt_or_ge j base with h6 | h6
        · have := idx_bound (sz := sz) h6
          omega
        · exact h6
      · rcases Nat.lt_or_ge j (base + n) with h6 | h6
        · exact h6
        · have := Nat.mul_le_mul_right sz h6
          rw [Nat.add_mul] at this
          omega

theorem exec_clear {P : Program} {st : St} {o : Oper} {args : Array Operand} {t : TypeId} {x : SV} {a : Act} {w : World} (he : EnvRep st a) (hop : o.op = .call { callee := .builtin .clear, args := args, argTypes := #[t] }) (h : opds st 0 args.toList = some [x]) :
    (execOp a.eval o).run P w = ((Builtin.clear_ #[t] o.type #[den x]).run P w).andThen fun v w' => .ok (.value v) w' := by
  rw [exec_builtin he (c := 0) rfl hop h]
  simp [builtin, denL]

def flatB : Value → Bool
  | .agg _ => false
  | .tuple _ => false
  | _ => true
theorem NotAgg.of {v : Value} (h : flatB v = true) : NotAgg v := by
  cases v <;> first | trivial | cases h

/-- clear of the rows from a place on, in a walk. -/
theorem post_clear {P : Program} {C : Cfg} (htt : TTok P C.tt) {Q : Exit → Act → World → Prop} {F : Fr} {st : St} {all : Array Oper} {o : Oper} {l : List Oper} {k : List W} {a : Act} {w : World} (hr : RepX F st a w) (hw : o.guard = none) (hdst : o.dst = none) {args : Array Operand} {t : TypeId}
    (hop : o.op = .call { callee := .builtin .clear, args := args, argTypes := #[t] }) {i b base n cap sz N u : Nat} {row : Nat → List SV} (h : opds st 0 args.toList = some [.sl i b 0 base n cap sz]) {e : TypeId} {ti te : TI} (ht : lookT C.tt t = some ti) (hd1 : ti.d = .slice e) (hte : lookT C.tt e = some te) (hz : te.zero.cells.size = te.sz) (hsz : te.sz = sz)
    (hna : te.zero.cells.toList.all flatB = true) (hi : st.hp[i]? = some (b, true, .arr 0 N row sz u (0, 0))) (hn : base + n ≤ N)
    (hk : ∀ a' w', RepX F { st with hp := st.hp.set i (b, true, .arr 0 N (fun q => if base ≤ q ∧ q < base + n then cellsV' te.zero.cells else row q) sz u (0, 0)) } a' w' → post P Q (.ops all l :: k) .normal a' w') : post P Q (.ops all (o :: l) :: k) .normal a w := by
  subst hsz
  obtain ⟨c, hb, hr1⟩ := hr.hp i b true _ hi
  have hrun := run_clearAt (P := P) (w := w) (t := t) (ty := o.type) (te := te) (b := b) (o := base * te.sz) (n := n) (cap := cap) ((htt _ _ ht).slice hd1) (run_zeroValue' (htt _ _ hte)) hb (by
    have l2 : (Builtin.zeroCells te.zero.cells n).size = n * te.sz := by simp [Builtin.zeroCells, hz]
    rw [l2, ← Nat.add_mul]
    have h2 : (base + n) * te.sz ≤ N * te.sz := Nat.mul_le_mul_right _ hn
    have := hr1.1
    omega) (fun v hv => by
    obtain ⟨q, hq, rfl⟩ := List.mem_iff_getElem.1 hv
    have hq' : q < n * te.zero.cells.size := by simpa [Builtin.zeroCells] using hq
    have h3 := zeroCells_get (z := te.zero.cells) hq'
    rw [Array.getElem_toList]
    rw [Array.getElem?_eq_getElem (by simpa using hq)] at h3
    have h4 : 0 < te.zero.cells.size := by
      rcases Nat.eq_zero_or_pos te.zero.cells.size with h5 | h5
      · rw [h5] at hq'; simp at hq'
      · exact h5
    have h6 := Nat.mod_lt q h4
    rw [Array.getElem?_eq_getElem h6] at h3
    rw [Option.some.inj h3]
    exact NotAgg.of (List.all_eq_true.1 hna _ (Array.getElem_mem_toList h6)))
  have e1 := exec_clear (P := P) (w := w) (hr.env.same (st' := st) rfl rfl rfl rfl) hop h
  simp only [den, Nat.zero_add] at e1
  rw [hrun] at e1
  simp only [Result.andThen_ok] at e1
  refine post_step hw e1 ?_
  rw [hdst]
  have hm := hr.mem.store hi (new := .arr 0 N (fun q => if base ≤ q ∧ q < base + n then cellsV' te.zero.cells else row q) te.sz u (0, 0)) (o := .cells (putAll c (base * te.sz) (Builtin.zeroCells te.zero.cells n).toList) u (0, 0)) ⟨_, putBlk_same (lt_of_heap hb), hr1.over hz hn⟩
  refine hk _ _ (Rep.of_mem (hr.env.same rfl rfl rfl rfl) ?_)
  refine ⟨hm.hp, hm.mu, hm.nd, ?_, hm.kp⟩
  simp [putBlk_size]
/-! ### '==' and '!=' of structs and arrays, in a walk -/
def eqR : BinOp → Bool → Bool
  | .neq, b => !b
  | _, b => b
def isEq : BinOp → Bool
  | .eql => true
  | .neq => true
  | _ => false

theorem exec_eqG {P : Program} {C : Cfg} (htt : TTok P C.tt) {ok : Nat → Bool} (hok : ∀ t, ok t = true → eqSide P t = true) {st : St} {a : Act} {w : World} (he : EnvRep st a) {o : Oper} {op : BinOp} {t t' : Nat} {x y : Operand} (hop : o.op = .binOp op t x y t') (hq : isEq op = true) {xs ys : List SV}
    (hl : opds st 0 [x, y] = some [.ag xs, .ag ys]) (hg : P.eqGuardType P.depth t = false) {b : Bool} (h : evEqA C.tt ok 40 t (.ag xs) (.ag ys) = some b) : (execOp a.eval o).run P w = .ok (.value (.bool (eqR op b))) w := by
  have e := opds_sound he (c := 0) rfl _ _ hl
  simp only [List.map_cons, List.map_nil, denL, List.cons.injEq, and_true] at e
  simp only [execOp, hop, e.1, e.2, Sem.run_bind]
  have h1 := evEqA_sound htt hok 40 t _ _ _ h w 9960
  simp only [den] at h1 ⊢
  rw [run_eqGuard_agg w _ _ _ _ _ _ hg]
  simp only [Result.andThen_ok]
  cases op <;> first | (cases hq; done) | skip
  · rw [run_eql_struct, show (10000 : Nat) = 9960 + 40 from rfl, h1]
    rfl
  · rw [run_neq_struct, show (10000 : Nat) = 9960 + 40 from rfl, h1]
    rfl

theorem post_eqP {P : Program} {C : Cfg} (htt : TTok P C.tt) {ok : Nat → Bool} (hok : ∀ t, ok t = true → eqSide P t = true) {Q : Exit → Act → World → Prop} {F : Fr} {st : St} {all : Array Oper} {o : Oper} {l : List Oper} {k : List W} {a : Act} {w : World} (hr : RepX F st a w) {op : BinOp} {t t' : Nat} {x y : Operand} (hop : o.op = .binOp op t x y t') (hq : isEq op = true) {xs ys : List SV}
    (hl : opds st 0 [x, y] = some [.ag xs, .ag ys]) (hg : P.eqGuardType P.depth t = false) {b : Bool} (h : evEqA C.tt ok 40 t (.ag xs) (.ag ys) = some b) (hw : Region.wanted o (yielded all a.tmps) = true) {d : Nat} (hdst : o.dst = some d) (hdn : d < st.nt) (hks : st.ks.all (fun r => r.tj != d) = true)
    (hk : ∀ a', RepX F { st with env := (d, 0, .v (.bool (eqR op b))) :: st.env } a' w → post P Q (.ops all l :: k) .normal a' w) : post P Q (.ops all (o :: l) :: k) .normal a w := by
  refine post_stepG hw (exec_eqG htt hok (hr.env.same (st' := st) rfl rfl rfl rfl) hop hq hl hg h) ?_
  rw [hdst]
  exact hk _ (hr.retK (KeepsTo.refl w []) (by simp) d (.v (.bool (eqR op b))) rfl st.hp hr.all hdn hks)

theorem post_eqQ {P : Program} {C : Cfg} (htt : TTok P C.tt) {ok : Nat → Bool} (hok : ∀ t, ok t = true → eqSide P t = true) {Q : Exit → Act → World → Prop} {F : Fr} {st : St} {all : Array Oper} {hp0 : Hp} {o : Oper} {i j : Nat} {l : List (Nat × Nat)} {k : List W} {a : Act} {w : World} (hr : RepX F st a w) (ht : HpRep hp0 w) (hj : (j == 0 || j == 1) = true) (hi : all[i]? = some o) {op : BinOp} {t t' : Nat} {x y : Operand} (hop : o.op = .binOp op t x y t') (hq : isEq op = true) {xs ys : List SV}
    (hl : opds st 0 [x, y] = some [.ag xs, .ag ys]) (hg : P.eqGuardType P.depth t = false) {b : Bool} (h : evEqA C.tt ok 40 t (.ag xs) (.ag ys) = some b) (hw : Region.wanted o (yielded all a.tmps) = true) {d : Nat} (hdst : o.dst = some d) (hdn : d < st.nt) (hks : st.ks.all (fun r => r.tj != d) = true)
    (hk : ∀ a', RepX F { st with env := (d, 0, .v (.bool (eqR op b))) :: st.env } a' w → post P Q (.opsD all hp0 l :: k) .normal a' w) : post P Q (.opsD all hp0 ((i, j) :: l) :: k) .normal a w := by
  have hx : post P Q (.opsD all hp0 l :: k) .normal (a.put o.dst (.bool (eqR op b))) w := by
    rw [hdst]
    exact hk _ (hr.retK (KeepsTo.refl w []) (by simp) d (.v (.bool (eqR op b))) rfl st.hp hr.all hdn hks)
  simp only [Bool.or_eq_true, beq_iff_eq] at hj
  rcases hj with rfl | rfl
  · exact post_stepD0 hi hw (fun w' _ => exec_eqG htt hok (hr.env.same (st' := st) rfl rfl rfl rfl) hop hq hl hg h) hx
  · exact post_stepD hi hw (exec_eqG htt hok (hr.env.same (st' := st) rfl rfl rfl rfl) hop hq hl hg h) ht hx
/-! ### append, of slices as lists -/
section
variable {α : Type} {enc : α → List SV} {sz : Nat} {d : α} {Pb : Nat → Prop}

/-- A literal of one thing. -/
theorem RdS.lit {w : World} {s : Nat} {row : Nat → List SV} {u : TypeId} {fz : Nat × Nat} {x : α} (h : (SO.arr 0 1 row sz u fz).rep w s) (hx : denL (row 0) = denL (enc x)) :
    RdS enc sz d (fun y => y = s) w (.slice (some ⟨s, 0, none⟩) 1 1) [x] :=
  .inr ⟨by simp, s, 0, 1, u, fz, rfl, rfl, rep_arr_sub h (Nat.le_refl _) (fun j hj => by
    obtain rfl : j = 0 := by simpa using hj
    exact hx), Nat.le_refl _⟩

theorem app_ow {P : Program} {w : World} {t t' e e' ty : TypeId} {te : TI} {V src : Value} {L M : List α} {Q : Nat → Prop} (hPb : ∀ x, w.heap.size ≤ x → Pb x) (ht : P.underlying t = some (.slice e)) (ht' : P.underlying t' = some (.slice e')) (hte : te.ok P e)
    (hz : te.zero.cells.size = sz) (hsz : te.sz = sz) (hby : te.by_ ≠ 0) (hfl : ∀ x ∈ M, ∀ c ∈ enc x, NotAgg (den c)) (hbig : (2 * (L.length + M.length) + 192) * te.by_ ≤ 281474976710656)
    (hV : OwS enc sz d Pb w V L) (hS : RdS enc sz d Q w src M) :
    ∃ V' w' B, (Builtin.append_ #[t, t'] ty #[V, src]).run P w = .ok V' w' ∧ OwS enc sz d Pb w' V' (L ++ M) ∧ (∀ x ∈ B, Pb x ∧ x < w.heap.size) ∧ KeepsTo w B w' := by
  subst hsz
  rcases hS with ⟨rfl, ad, cp, rfl⟩ | ⟨h0, b2, o2, cap2, t2, fz2, _, rfl, hrep2, _⟩
  · obtain ⟨vd, vc, rfl⟩ := hV.slice
    have hvc : L.length ≤ vc := by
      rcases hV with ⟨h, _, e⟩ | ⟨b, N, cap, u, row, _, e, _, h, _⟩
      · subst h; simp
      · cases e; exact h
    exact ⟨_, w, [], run_append_zero ht ht' hte hvc, by simpa using hV, by simp, KeepsTo.refl w []⟩
  · obtain ⟨c2, hb2, hr2⟩ := hrep2
    have hA : AppArgs P w e te (.slice (some ⟨b2, o2, none⟩) M.length cap2) (fun j => enc (nth d M j)) 0 M.length := ⟨hte, hz, hby, b2, c2, cap2, t2, fz2, o2, M.length, by simp, hb2, hr2, by omega⟩
    have hgrow : ∀ (row : Nat → List SV) (ad : Option Addr) (cap : Nat), V = .slice ad L.length cap → (∀ j, j < L.length → (row (0 + j)).length = te.sz) → (∀ j, j < L.length → row j = enc (nth d L j)) →
        (Builtin.firstCells te.sz L.length V).run P { w with drawn := w.drawn + 1 } = .ok (rowsOf row 0 L.length).toArray { w with drawn := w.drawn + 1 } → cap < L.length + M.length →
        ∃ V' w' B, (Builtin.append_ #[t, t'] ty #[V, .slice (some ⟨b2, o2, none⟩) M.length cap2]).run P w = .ok V' w' ∧ OwS enc te.sz d Pb w' V' (L ++ M) ∧ (∀ x ∈ B, Pb x ∧ x < w.heap.size) ∧ KeepsTo w B w' := by
      intro row ad cap hdx hrl hrow hold hroom
      obtain ⟨newCap, h1, h2⟩ := run_append_grow (P := P) (w := w) (ty := ty) (row := row) ht ht' hA hdx hold hroom hbig
      have hrep := grown_rep (row := row) (row2 := fun j => enc (nth d M j)) (sz := te.sz) (len := L.length) (base2 := 0) (n := M.length) (cap := newCap) (z := te.zero.cells) hrl hA.len2 hz h1
      refine ⟨_, _, [], h2, .inr ⟨w.heap.size, newCap, newCap, e, _, hPb _ (Nat.le_refl _), by simp, by omega, by simpa using h1, Nat.le_refl _, ⟨_, heap_alloc_new (w := { w with drawn := w.drawn + 1 }), hrep⟩, fun j hj => ?_⟩, by simp, ?_⟩
      · simp only [List.length_append] at hj
        unfold appRow
        by_cases hj1 : j < L.length
        · rw [if_pos hj1, hrow j hj1, nth_append_left hj1]
        · rw [if_neg hj1, if_pos (by omega), Nat.zero_add]
          have e1 : j = L.length + (j - L.length) := by omega
          conv => rhs; rw [e1]
          rw [nth_append_right]
      · exact ⟨Nat.le_refl _, rfl, rfl, rfl, by show w.heap.size ≤ (w.heap.push _).size; simp, fun k hk _ => heap_alloc_lt (w := { w with drawn := w.drawn + 1 }) hk⟩
    rcases hV with ⟨rfl, ad, rfl⟩ | ⟨b, N, cap, u, row, hPbb, rfl, hc0, hlen, hcap, hrep, hrow⟩
    · exact hgrow (fun _ => List.replicate te.sz (.v undef)) ad 0 rfl (fun j hj => by simp at hj) (fun j hj => by simp at hj) (by cases ad <;> simp [Builtin.firstCells, rowsOf, loadCells, loadCellsFrom]) (by simpa using h0)
    · have hrep' := hrep
      obtain ⟨c, hb, hr⟩ := hrep'
      by_cases hroom : L.length + M.length ≤ cap
      · have h1 := run_append_room (P := P) (w := w) (ty := ty) (row2 := fun j => enc (nth d M j)) (base2 := 0) ht ht' hA hb hr hcap hroom (fun j hj x hx => hfl _ (nth_mem hj) x (by simpa using hx))
        have hor := hr.of_room (row2 := fun j => enc (nth d M j)) (base2 := 0) (n := M.length) (len := L.length) (by omega) hA.len2
        refine ⟨_, _, [b], h1, .inr ⟨b, N, cap, u, _, hPbb, by simp, hc0, by simpa using hroom, hcap, ⟨_, putBlk_same (lt_of_heap hb), hor⟩, fun j hj => ?_⟩, by simpa using ⟨hPbb, lt_of_heap hb⟩, putBlk_keeps⟩
        simp only [List.length_append] at hj
        by_cases hj1 : j < L.length
        · simp only [hj1, if_true]
          rw [hrow j hj1, nth_append_left hj1]
        · simp only [hj1, if_false, hj, if_true, Nat.zero_add]
          have e1 : j = L.length + (j - L.length) := by omega
          conv => rhs; rw [e1]
          rw [nth_append_right]
      · refine hgrow row (some ⟨b, 0, none⟩) cap rfl (fun j hj => (hr.2 _ (by omega)).1) hrow ?_ (by omega)
        have := run_loadRows (P := P) (w := { w with drawn := w.drawn + 1 }) hb hr (base := 0) (n := L.length) (by omega)
        simpa [Builtin.firstCells] using this

/-- append in a walk, of slices as lists. -/
theorem post_app {P : Program} {C : Cfg} (htt : TTok P C.tt) {Qe : Exit → Act → World → Prop} {F : Fr} {st : St} {all : Array Oper} {o : Oper} {l : List Oper} {k : List W} {a : Act} {w : World} (hr : RepX F st a w) (hw : Region.wanted o (yielded all a.tmps) = true) {dd : Nat} (hdst : o.dst = some dd) (hdn : dd < st.nt) (hks : st.ks.all (fun r => r.tj != dd) = true)
    {x y : SV} {t t' : TypeId} (he : evApp st o.op = some (x, y, t, t')) {e e' : TypeId} {ti ti' te : TI} (ht : lookT C.tt t = some ti) (hd1 : ti.d = .slice e) (ht' : lookT C.tt t' = some ti') (hd2 : ti'.d = .slice e') (hte : lookT C.tt e = some te) (hz : te.zero.cells.size = sz) (hsz : te.sz = sz) (hby : te.by_ ≠ 0)
    {L M : List α} {Q : Nat → Prop} (hfl : ∀ x ∈ M, ∀ c ∈ enc x, NotAgg (den c)) (hbig : (2 * (L.length + M.length) + 192) * te.by_ ≤ 281474976710656) (hPb : ∀ x, w.heap.size ≤ x → Pb x) (hV : OwS enc sz d Pb w (den x) L) (hS : RdS enc sz d Q w (den y) M)
    (H : Hp) (hH : ∀ w' B, KeepsTo w B w' → (∀ x ∈ B, Pb x ∧ x < w.heap.size) → HpAll F w' H) (hF : ∀ x, Pb x → F.B ≤ x ∨ x ∈ F.M)
    (hk : ∀ V' a' w' B, OwS enc sz d Pb w' V' (L ++ M) → (∀ x ∈ B, Pb x ∧ x < w.heap.size) → KeepsTo w B w' → RepX F { st with env := (dd, 0, .v V') :: st.env, hp := H } a' w' → post P Qe (.ops all l :: k) .normal a' w') : post P Qe (.ops all (o :: l) :: k) .normal a w := by
  obtain ⟨V', w', B, h1, h2, h3, h4⟩ := app_ow (ty := o.type) hPb ((htt _ _ ht).slice hd1) ((htt _ _ ht').slice hd2) (htt _ _ hte) hz hsz hby hfl hbig hV hS
  refine post_appE hr hw hdst he h1 ?_
  exact hk V' _ w' B h2 h3 h4 (hr.retK h4 (fun b hb => hF b (h3 b hb).1) dd (.v V') rfl H (hH w' B h4 h3) hdn hks)
end
/-- The middle of two places, as a binary search has it. -/
theorem mid_ok (lo hi : Nat) (h : lo + hi ≤ 4611686018427387904) : IntKind.i64.wrap ((IntKind.u64.wrap ((lo : Int) + hi)).fdiv (2 ^ min 1 IntKind.u64.bits)) = (((lo + hi) / 2 : Nat) : Int) := by
  rw [IntWalk.u64_in _ (by omega)]
  have e : (2 : Int) ^ min 1 IntKind.u64.bits = 2 := by decide
  rw [e, Int.fdiv_eq_ediv_of_nonneg _ (by decide), IntWalk.i64_in _ (by omega)]
  omega
/-- A region that draws is entered with blocks of one's choosing, which may be one block seen twice. -/
theorem post_enterD {P : Program} {Q : Exit → Act → World → Prop} (hm : P.follows .mixedOrders = true) (hQ : PanicFree Q) {F : Fr} {st : St} {id : Nat} {ops : Array Oper} {ord : List (Nat × Nat)} {k : List W} {a : Act} {w : World} (hok : ordOK ops ord = true) (hr : RepX F st a w) (H0 : Hp) (h0 : HpRep H0 w)
    (hk : RepX F st a { w with drawn := w.drawn + 1 } → HpRep H0 { w with drawn := w.drawn + 1 } → post P Q (.opsD ops H0 ord :: k) .normal a { w with drawn := w.drawn + 1 }) : post P Q (.code (.region id ops true) :: k) .normal a w :=
  wp_region_seqD hm hok (fun c a d v w => hQ.post k c a d v w) (HpRep.drew h0) (HpRep.frz (HpRep.drew h0)) (hk hr.drew (HpRep.drew h0))
end Go.SX
