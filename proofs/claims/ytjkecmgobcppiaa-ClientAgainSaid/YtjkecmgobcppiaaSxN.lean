/- Slices as lists of things: one that is read, one of one's own. Holds for every program. -/
import Derived.Test.YtjkecmgobcppiaaSxC
import Derived.Test.YtjkecmgobcppiaaSxM
namespace Go.SX
set_option linter.unusedVariables false
set_option linter.unusedSimpArgs false
open Go Go.RowKit

section
variable {α : Type} {enc : α → List SV} {sz : Nat} {d : α} {P P' : Nat → Prop} {w w' : World} {v : Value} {L : List α}

/-- A slice of things that is read. -/
def RdS (enc : α → List SV) (sz : Nat) (d : α) (P : Nat → Prop) (w : World) (v : Value) (L : List α) : Prop :=
  (L = [] ∧ ∃ ad cap, v = .slice ad 0 cap) ∨
  (0 < L.length ∧ ∃ (b o0 cap : Nat) (u : TypeId) (fz : Nat × Nat), P b ∧ v = .slice (some ⟨b, o0, none⟩) L.length cap ∧ (SO.arr o0 L.length (fun j => enc (L.getD j d)) sz u fz).rep w b)

/-- A slice of things of one's own: it may be written, and appended to. -/
def OwS (enc : α → List SV) (sz : Nat) (d : α) (P : Nat → Prop) (w : World) (v : Value) (L : List α) : Prop :=
  (L = [] ∧ ∃ ad, v = .slice ad 0 0) ∨
  (∃ (b N cap : Nat) (u : TypeId) (row : Nat → List SV), P b ∧ v = .slice (some ⟨b, 0, none⟩) L.length cap ∧ 0 < cap ∧ L.length ≤ cap ∧ cap ≤ N ∧ (SO.arr 0 N row sz u (0, 0)).rep w b ∧ ∀ j, j < L.length → row j = enc (L.getD j d))

theorem RdS.slice (h : RdS enc sz d P w v L) : ∃ ad cap, v = .slice ad L.length cap := by
  rcases h with ⟨rfl, ad, cap, rfl⟩ | ⟨_, b, o0, cap, u, fz, _, rfl, _⟩
  · exact ⟨ad, cap, rfl⟩
  · exact ⟨_, cap, rfl⟩

theorem RdS.opn (h : RdS enc sz d P w v L) {k : Nat} (hk : k < L.length) : ∃ (b o0 cap : Nat) (u : TypeId) (fz : Nat × Nat), P b ∧ v = .slice (some ⟨b, o0, none⟩) L.length cap ∧ (SO.arr o0 L.length (fun j => enc (L.getD j d)) sz u fz).rep w b := by
  rcases h with ⟨rfl, _⟩ | ⟨_, h⟩
  · simp at hk
  · exact h

theorem OwS.slice (h : OwS enc sz d P w v L) : ∃ ad cap, v = .slice ad L.length cap := by
  rcases h with ⟨rfl, ad, rfl⟩ | ⟨b, N, cap, u, row, _, rfl, _⟩
  · exact ⟨ad, 0, rfl⟩
  · exact ⟨_, cap, rfl⟩

theorem OwS.rd (h : OwS enc sz d P w v L) : RdS enc sz d P w v L := by
  rcases h with ⟨rfl, ad, rfl⟩ | ⟨b, N, cap, u, row, hP, rfl, h0, h1, h2, h3, h4⟩
  · exact .inl ⟨rfl, ad, 0, rfl⟩
  · rcases Nat.eq_zero_or_pos L.length with h | h
    · have : L = [] := List.length_eq_zero_iff.1 h
      subst this
      exact .inl ⟨rfl, _, _, rfl⟩
    · exact .inr ⟨h, b, 0, cap, u, (0, 0), hP, rfl, rep_arr_sub h3 (by omega) fun j hj => by rw [h4 j hj]⟩

theorem OwS.opn (h : OwS enc sz d P w v L) {k : Nat} (hk : k < L.length) : ∃ (b N cap : Nat) (u : TypeId) (row : Nat → List SV), P b ∧ v = .slice (some ⟨b, 0, none⟩) L.length cap ∧ 0 < cap ∧ L.length ≤ cap ∧ cap ≤ N ∧ (SO.arr 0 N row sz u (0, 0)).rep w b ∧ ∀ j, j < L.length → row j = enc (L.getD j d) := by
  rcases h with ⟨rfl, _⟩ | h
  · simp at hk
  · exact h

theorem RdS.keep {M : List Nat} (h : RdS enc sz d P w v L) (hk : KeepsTo w M w') (hM : ∀ x ∈ M, ¬ P x) : RdS enc sz d P w' v L := by
  rcases h with h | ⟨h0, b, o0, cap, u, fz, hP, h1, h2⟩
  · exact .inl h
  · exact .inr ⟨h0, b, o0, cap, u, fz, hP, h1, hk.same h2 fun hm => hM b hm hP⟩
theorem OwS.keep {M : List Nat} (h : OwS enc sz d P w v L) (hk : KeepsTo w M w') (hM : ∀ x ∈ M, ¬ P x) : OwS enc sz d P w' v L := by
  rcases h with h | ⟨b, N, cap, u, row, hP, h1, h2, h3, h4, h5, h6⟩
  · exact .inl h
  · exact .inr ⟨b, N, cap, u, row, hP, h1, h2, h3, h4, hk.same h5 fun hm => hM b hm hP, h6⟩
theorem RdS.below (h : RdS enc sz d P w v L) (hb : Below w.heap.size w w') : RdS enc sz d P w' v L := h.keep (KeepsTo.below hb []) (by simp)
theorem OwS.below (h : OwS enc sz d P w v L) (hb : Below w.heap.size w w') : OwS enc sz d P w' v L := h.keep (KeepsTo.below hb []) (by simp)
theorem RdS.mono (h : RdS enc sz d P w v L) (hP : ∀ x, x < w.heap.size → P x → P' x) : RdS enc sz d P' w v L := by
  rcases h with h | ⟨h0, b, o0, cap, u, fz, hp, h1, h2⟩
  · exact .inl h
  · exact .inr ⟨h0, b, o0, cap, u, fz, hP b (SO.rep_lt h2) hp, h1, h2⟩
theorem OwS.mono (h : OwS enc sz d P w v L) (hP : ∀ x, x < w.heap.size → P x → P' x) : OwS enc sz d P' w v L := by
  rcases h with h | ⟨b, N, cap, u, row, hp, h1, h2, h3, h4, h5, h6⟩
  · exact .inl h
  · exact .inr ⟨b, N, cap, u, row, hP b (SO.rep_lt h5) hp, h1, h2, h3, h4, h5, h6⟩

/-- A part of a slice. -/
theorem RdS.part {b o0 n base len cap : Nat} {u : TypeId} {fz : Nat × Nat} (hP : P b) (hn : n = L.length) (h : (SO.arr o0 n (fun j => enc (L.getD j d)) sz u fz).rep w b) (hl : base + len ≤ L.length) :
    RdS enc sz d P w (.slice (some ⟨b, o0 + base * sz, none⟩) len cap) ((L.drop base).take len) := by
  subst hn
  have hlen : ((L.drop base).take len).length = len := by simp; omega
  rcases Nat.eq_zero_or_pos len with rfl | h0
  · exact .inl ⟨by simp, _, _, rfl⟩
  · refine .inr ⟨by omega, b, o0 + base * sz, cap, u, fz, hP, by rw [hlen], ?_⟩
    obtain ⟨c, h1, h2, h3⟩ := h
    refine ⟨c, h1, ?_, fun j hj => ?_⟩
    · rw [hlen]
      have : (base + len) * sz ≤ L.length * sz := Nat.mul_le_mul_right _ hl
      rw [Nat.add_mul] at this
      omega
    · rw [hlen] at hj
      obtain ⟨h4, h5⟩ := h3 (base + j) (by omega)
      have e : ((L.drop base).take len).getD j d = L.getD (base + j) d := by
        simp [List.getD_eq_getElem?_getD, hj, List.getElem?_drop]
      simp only [e]
      refine ⟨h4, fun s hs => ?_⟩
      rw [← h5 s hs]
      congr 1
      rw [Nat.add_mul]; omega
end

theorem HpAll.take {F : Fr} {w : World} : ∀ {H : Hp} (n : Nat), HpAll F w H → HpAll F w (H.take n)
  | [], n, _ => by simp [HpAll]
  | _ :: _, 0, _ => trivial
  | (b, m, o) :: H, n + 1, h => ⟨⟨h.1.1, h.1.2.1, fun e he => h.1.2.2 e (List.mem_of_mem_take he)⟩, HpAll.take n h.2⟩
theorem HpAll.drop {F : Fr} {w : World} : ∀ {H : Hp} (n : Nat), HpAll F w H → HpAll F w (H.drop n)
  | _, 0, h => h
  | [], n + 1, _ => trivial
  | _ :: _, n + 1, h => HpAll.drop n h.2

/-! ### clear of rows from a place on -/
theorem run_clearAt {P : Program} {w : World} {t e ty : TypeId} {te : TI} {b o n cap u : Nat} {c : Array Value} (ht : P.underlying t = some (.slice e)) (hz : ∀ w, (zeroValue e).run P w = .ok te.zero w) (hb : w.heap[b]? = some (.cells c u (0, 0)))
    (hsz : o + (Builtin.zeroCells te.zero.cells n).size ≤ c.size) (hna : ∀ v ∈ (Builtin.zeroCells te.zero.cells n).toList, NotAgg v) :
    (Builtin.clear_ #[t] ty #[.slice (some ⟨b, o, none⟩) n cap]).run P w = .ok (.tuple #[]) (putBlk w b (.cells (putAll c o (Builtin.zeroCells te.zero.cells n).toList) u (0, 0))) := by
  rcases Nat.eq_zero_or_pos n with rfl | h0
  · have e1 : (Builtin.zeroCells te.zero.cells 0).toList = [] := by
      have : (Builtin.zeroCells te.zero.cells 0).size = 0 := by simp [Builtin.zeroCells]
      exact List.length_eq_zero_iff.1 (by simpa using this)
    rw [e1]
    simp only [putAll, putBlk_self hb]
    simp [Builtin.clear_, run_underlying ht]
  · have hst := run_storeCells (P := P) (Builtin.zeroCells te.zero.cells n).toList w c o 0 hb (by simpa using hsz) hna
    obtain ⟨m, rfl⟩ : ∃ m, n = m + 1 := ⟨n - 1, by omega⟩
    simp [Builtin.clear_, run_underlying ht, hz, hst]

/-- Rows that are written over from a place on. -/
theorem ArrRep.over {c : Array Value} {N base n : Nat} {row : Nat → List SV} {sz : Nat} {z : Array Value} (h : ArrRep c 0 N row sz) (hz : z.size = sz) (hn : base + n ≤ N) :
    ArrRep (putAll c (base * sz) (Builtin.zeroCells z n).toList) 0 N (fun q => if base ≤ q ∧ q < base + n then cellsV' z else row q) sz := by
  have l2 : (Builtin.zeroCells z n).toList.length = n * sz := by simp [Builtin.zeroCells, hz]
  have hfit : base * sz + (Builtin.zeroCells z n).toList.length ≤ c.size := by
    rw [l2, ← Nat.add_mul]
    have h2 : (base + n) * sz ≤ N * sz := Nat.mul_le_mul_right _ hn
    have := h.1
    omega
  refine ⟨by rw [putAll_size]; exact h.1, fun j hj => ?_⟩
  obtain ⟨h4, h5⟩ := h.2 j hj
  simp only [Nat.zero_add] at h5 ⊢
  by_cases hj1 : base ≤ j ∧ j < base + n
  · rw [if_pos hj1]
    refine ⟨by simp [cellsV', hz], fun s hs => ?_⟩
    have hb := idx_bound (sz := sz) (show j - base < n by omega)
    have e2 : j * sz = base * sz + (j - base) * sz := by rw [← Nat.add_mul]; congr 1; omega
    rw [putAll_get _ _ _ _ hfit, if_pos (by rw [l2]; omega)]
    have e3 : j * sz + s - base * sz = (j - base) * sz + s := by omega
    rw [e3, Array.getElem?_toList, zeroCells_get (by rw [hz]; omega), hz]
    have e5 : ((j - base) * sz + s) % sz = s := by rw [Nat.mul_comm, Nat.mul_add_mod]; exact Nat.mod_eq_of_lt hs
    rw [e5]
    simp [cellsV', denL_map_v]
  · rw [if_neg hj1]
    refine ⟨h4, fun s hs => ?_⟩
    rw [putAll_get _ _ _ _ hfit, if_neg ?_]
    · exact h5 s hs
    · rw [l2]
      rintro ⟨g1, g2⟩
      apply hj1
      have hsz : 0 < sz := by omega
      refine ⟨?_, ?_⟩
      · rcases Nat.lt_or_ge j base with h6 | h6
        · have := idx_bound (sz := sz) h6
          omega
        · exact h6
      · rcases Nat.lt_or_ge j (base + n) with h6 | h6
        · exact h6
        · have := Nat.mul_le_mul_right sz h6
          rw [Nat.add_mul] at this
          omega

theorem exec_clear {P : Program} {st : St} {o : Oper} {args : Array Operand} {t : TypeId} {x : SV} {a : Act} {w : World} (he : EnvRep st a) (hop : o.op = .call { callee := .builtin .clear, args := args, argTypes := #[t] }) (h : opds st 0 args.toList = some [x]) :
    (execOp a.eval o).run P w = ((Builtin.clear_ #[t] o.type #[den x]).run P w).andThen fun v w' => .ok (.value v) w' := by
  rw [exec_builtin he (c := 0) rfl hop h]
  simp [builtin, denL]

def flatB : Value → Bool
  | .agg _ => false
  | .tuple _ => false
  | _ => true
theorem NotAgg.of {v : Value} (h : flatB v = true) : NotAgg v := by
  cases v <;> first | trivial | cases h

/-- clear of the rows from a place on, in a walk. -/
theorem post_clear {P : Program} {C : Cfg} (htt : TTok P C.tt) {Q : Exit → Act → World → Prop} {F : Fr} {st : St} {all : Array Oper} {o : Oper} {l : List Oper} {k : List W} {a : Act} {w : World} (hr : RepX F st a w) (hw : o.guard = none) (hdst : o.dst = none) {args : Array Operand} {t : TypeId}
    (hop : o.op = .call { callee := .builtin .clear, args := args, argTypes := #[t] }) {i b base n cap sz N u : Nat} {row : Nat → List SV} (h : opds st 0 args.toList = some [.sl i b 0 base n cap sz]) {e : TypeId} {ti te : TI} (ht : lookT C.tt t = some ti) (hd1 : ti.d = .slice e) (hte : lookT C.tt e = some te) (hz : te.zero.cells.size = te.sz) (hsz : te.sz = sz)
    (hna : te.zero.cells.toList.all flatB = true) (hi : st.hp[i]? = some (b, true, .arr 0 N row sz u (0, 0))) (hn : base + n ≤ N)
    (hk : ∀ a' w', RepX F { st with hp := st.hp.set i (b, true, .arr 0 N (fun q => if base ≤ q ∧ q < base + n then cellsV' te.zero.cells else row q) sz u (0, 0)) } a' w' → post P Q (.ops all l :: k) .normal a' w') : post P Q (.ops all (o :: l) :: k) .normal a w := by
  subst hsz
  obtain ⟨c, hb, hr1⟩ := hr.hp i b true _ hi
  have hrun := run_clearAt (P := P) (w := w) (t := t) (ty := o.type) (te := te) (b := b) (o := base * te.sz) (n := n) (cap := cap) ((htt _ _ ht).slice hd1) (run_zeroValue' (htt _ _ hte)) hb (by
    have l2 : (Builtin.zeroCells te.zero.cells n).size = n * te.sz := by simp [Builtin.zeroCells, hz]
    rw [l2, ← Nat.add_mul]
    have h2 : (base + n) * te.sz ≤ N * te.sz := Nat.mul_le_mul_right _ hn
    have := hr1.1
    omega) (fun v hv => by
    obtain ⟨q, hq, rfl⟩ := List.mem_iff_getElem.1 hv
    have hq' : q < n * te.zero.cells.size := by simpa [Builtin.zeroCells] using hq
    have h3 := zeroCells_get (z := te.zero.cells) hq'
    rw [Array.getElem_toList]
    rw [Array.getElem?_eq_getElem (by simpa using hq)] at h3
    have h4 : 0 < te.zero.cells.size := by
      rcases Nat.eq_zero_or_pos te.zero.cells.size with h5 | h5
      · rw [h5] at hq'; simp at hq'
      · exact h5
    have h6 := Nat.mod_lt q h4
    rw [Array.getElem?_eq_getElem h6] at h3
    rw [Option.some.inj h3]
    exact NotAgg.of (List.all_eq_true.1 hna _ (Array.getElem_mem_toList h6)))
  have e1 := exec_clear (P := P) (w := w) (hr.env.same (st' := st) rfl rfl rfl rfl) hop h
  simp only [den, Nat.zero_add] at e1
  rw [hrun] at e1
  simp only [Result.andThen_ok] at e1
  refine post_step hw e1 ?_
  rw [hdst]
  have hm := hr.mem.store hi (new := .arr 0 N (fun q => if base ≤ q ∧ q < base + n then cellsV' te.zero.cells else row q) te.sz u (0, 0)) (o := .cells (putAll c (base * te.sz) (Builtin.zeroCells te.zero.cells n).toList) u (0, 0)) ⟨_, putBlk_same (lt_of_heap hb), hr1.over hz hn⟩
  refine hk _ _ (Rep.of_mem (hr.env.same rfl rfl rfl rfl) ?_)
  refine ⟨hm.hp, hm.mu, hm.nd, ?_, hm.kp⟩
  simp [putBlk_size]
end Go.SX
