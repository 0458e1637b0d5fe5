/- A4: texts of this proof, joined. -/
import Derived.Test.YtbhkpmnieopddaaA2
import Derived.Test.YtbhkpmnieopddaaA3
import Derived.Lib.Overlaps
import Derived.WideKeyEntry
set_option linter.unusedVariables false
set_option linter.unusedSimpArgs false
set_option linter.unusedSectionVars false
namespace Go.SX
open Go Go.RowKit
def nth {α : Type} (d : α) (L : List α) (j : Nat) : α := L.getD j d
theorem nth_lt {α : Type} {d : α} {L : List α} {j : Nat} (h : j < L.length) : nth d L j = L[j] := by simp [nth, h]
theorem nth_mem {α : Type} {d : α} {L : List α} {j : Nat} (h : j < L.length) : nth d L j ∈ L := by rw [nth_lt h]; exact List.getElem_mem h
theorem drop_nth {α : Type} {d : α} {L : List α} {j : Nat} (h : j < L.length) : L.drop j = nth d L j :: L.drop (j + 1) := by rw [nth_lt h]; exact List.drop_eq_getElem_cons h
theorem take_nth {α : Type} {d : α} {L : List α} {j : Nat} (h : j < L.length) : L.take (j + 1) = L.take j ++ [nth d L j] := by rw [nth_lt h]; simp
theorem nth_append_left {α : Type} {d : α} {L M : List α} {j : Nat} (h : j < L.length) : nth d (L ++ M) j = nth d L j := by simp [nth, List.getElem?_append_left h, h]
theorem nth_append_right {α : Type} {d : α} {L M : List α} {j : Nat} : nth d (L ++ M) (L.length + j) = nth d M j := by simp [nth, List.getElem?_append_right]
theorem nth_part {α : Type} {d : α} {L : List α} {i n j : Nat} (h : j < n) : nth d ((L.drop i).take n) j = nth d L (i + j) := by simp [nth, List.getD_eq_getElem?_getD, h]
section
variable {α : Type} {enc : α → List SV} {sz : Nat} {d : α} {P P' : Nat → Prop} {w w' : World} {v : Value} {L : List α}
def RdS (enc : α → List SV) (sz : Nat) (d : α) (P : Nat → Prop) (w : World) (v : Value) (L : List α) : Prop :=
  (L = [] ∧ ∃ ad cap, v = .slice ad 0 cap) ∨
  (0 < L.length ∧ ∃ (b o0 cap : Nat) (u : TypeId) (fz : Nat × Nat), P b ∧ v = .slice (some ⟨b, o0, none⟩) L.length cap ∧ (SO.arr o0 L.length (fun j => enc (nth d L j)) sz u fz).rep w b ∧ L.length ≤ cap)
def OwS (enc : α → List SV) (sz : Nat) (d : α) (P : Nat → Prop) (w : World) (v : Value) (L : List α) : Prop :=
  (L = [] ∧ ∃ ad, v = .slice ad 0 0) ∨
  (∃ (b N cap : Nat) (u : TypeId) (row : Nat → List SV), P b ∧ v = .slice (some ⟨b, 0, none⟩) L.length cap ∧ 0 < cap ∧ L.length ≤ cap ∧ cap ≤ N ∧ (SO.arr 0 N row sz u (0, 0)).rep w b ∧ ∀ j, j < L.length → row j = enc (nth d L j))
theorem RdS.slice (h : RdS enc sz d P w v L) : ∃ ad cap, v = .slice ad L.length cap := by
  rcases h with ⟨rfl, ad, cap, rfl⟩ | ⟨_, b, o0, cap, u, fz, _, rfl, _⟩
  · exact ⟨ad, cap, rfl⟩
  · exact ⟨_, cap, rfl⟩
theorem RdS.opn (h : RdS enc sz d P w v L) {k : Nat} (hk : k < L.length) : ∃ (b o0 cap : Nat) (u : TypeId) (fz : Nat × Nat), P b ∧ v = .slice (some ⟨b, o0, none⟩) L.length cap ∧ (SO.arr o0 L.length (fun j => enc (nth d L j)) sz u fz).rep w b := by
  rcases h with ⟨rfl, _⟩ | ⟨_, h⟩
  · simp at hk
  · obtain ⟨b, o0, cap, u, fz, h1, h2, h3, _⟩ := h
    exact ⟨b, o0, cap, u, fz, h1, h2, h3⟩
theorem RdS.cap (h : RdS enc sz d P w v L) {ad : Option Addr} {n cap : Nat} (hv : v = .slice ad n cap) : L.length ≤ cap := by
  rcases h with ⟨rfl, _⟩ | ⟨_, b, o0, cap', u, fz, _, e, _, h⟩
  · simp
  · rw [hv] at e; cases e; exact h
theorem OwS.slice (h : OwS enc sz d P w v L) : ∃ ad cap, v = .slice ad L.length cap := by
  rcases h with ⟨rfl, ad, rfl⟩ | ⟨b, N, cap, u, row, _, rfl, _⟩
  · exact ⟨ad, 0, rfl⟩
  · exact ⟨_, cap, rfl⟩
theorem OwS.rd (h : OwS enc sz d P w v L) : RdS enc sz d P w v L := by
  rcases h with ⟨rfl, ad, rfl⟩ | ⟨b, N, cap, u, row, hP, rfl, h0, h1, h2, h3, h4⟩
  · exact .inl ⟨rfl, ad, 0, rfl⟩
  · rcases Nat.eq_zero_or_pos L.length with h | h
    · have : L = [] := List.length_eq_zero_iff.1 h
      subst this
      exact .inl ⟨rfl, _, _, rfl⟩
    · exact .inr ⟨h, b, 0, cap, u, (0, 0), hP, rfl, rep_arr_sub h3 (by omega) (fun j hj => by rw [h4 j hj]), h1⟩
theorem OwS.opn (h : OwS enc sz d P w v L) {k : Nat} (hk : k < L.length) : ∃ (b N cap : Nat) (u : TypeId) (row : Nat → List SV), P b ∧ v = .slice (some ⟨b, 0, none⟩) L.length cap ∧ 0 < cap ∧ L.length ≤ cap ∧ cap ≤ N ∧ (SO.arr 0 N row sz u (0, 0)).rep w b ∧ ∀ j, j < L.length → row j = enc (nth d L j) := by
  rcases h with ⟨rfl, _⟩ | h
  · simp at hk
  · exact h
theorem RdS.keep {M : List Nat} (h : RdS enc sz d P w v L) (hk : KeepsTo w M w') (hM : ∀ x ∈ M, ¬ P x) : RdS enc sz d P w' v L := by
  rcases h with h | ⟨h0, b, o0, cap, u, fz, hP, h1, h2, h3⟩
  · exact .inl h
  · exact .inr ⟨h0, b, o0, cap, u, fz, hP, h1, (hk.same h2 fun hm => hM b hm hP), h3⟩
theorem OwS.keep {M : List Nat} (h : OwS enc sz d P w v L) (hk : KeepsTo w M w') (hM : ∀ x ∈ M, ¬ P x) : OwS enc sz d P w' v L := by
  rcases h with h | ⟨b, N, cap, u, row, hP, h1, h2, h3, h4, h5, h6⟩
  · exact .inl h
  · exact .inr ⟨b, N, cap, u, row, hP, h1, h2, h3, h4, hk.same h5 fun hm => hM b hm hP, h6⟩
theorem RdS.below (h : RdS enc sz d P w v L) (hb : Below w.heap.size w w') : RdS enc sz d P w' v L := h.keep (KeepsTo.below hb []) (by simp)
theorem OwS.below (h : OwS enc sz d P w v L) (hb : Below w.heap.size w w') : OwS enc sz d P w' v L := h.keep (KeepsTo.below hb []) (by simp)
theorem RdS.mono (h : RdS enc sz d P w v L) (hP : ∀ x, x < w.heap.size → P x → P' x) : RdS enc sz d P' w v L := by
  rcases h with h | ⟨h0, b, o0, cap, u, fz, hp, h1, h2, h3⟩
  · exact .inl h
  · exact .inr ⟨h0, b, o0, cap, u, fz, hP b (SO.rep_lt h2) hp, h1, h2, h3⟩
theorem OwS.mono (h : OwS enc sz d P w v L) (hP : ∀ x, x < w.heap.size → P x → P' x) : OwS enc sz d P' w v L := by
  rcases h with h | ⟨b, N, cap, u, row, hp, h1, h2, h3, h4, h5, h6⟩
  · exact .inl h
  · exact .inr ⟨b, N, cap, u, row, hP b (SO.rep_lt h5) hp, h1, h2, h3, h4, h5, h6⟩
theorem RdS.part {b o0 n base len cap : Nat} {u : TypeId} {fz : Nat × Nat} (hP : P b) (hn : n = L.length) (h : (SO.arr o0 n (fun j => enc (nth d L j)) sz u fz).rep w b) (hl : base + len ≤ L.length) (hc : len ≤ cap) :
    RdS enc sz d P w (.slice (some ⟨b, o0 + base * sz, none⟩) len cap) ((L.drop base).take len) := by
  subst hn
  have hlen : ((L.drop base).take len).length = len := by simp; omega
  rcases Nat.eq_zero_or_pos len with rfl | h0
  · exact .inl ⟨by simp, _, _, rfl⟩
  · refine .inr ⟨by omega, b, o0 + base * sz, cap, u, fz, hP, by rw [hlen], ?_, by rw [hlen]; exact hc⟩
    obtain ⟨c, h1, h2, h3⟩ := h
    refine ⟨c, h1, ?_, fun j hj => ?_⟩
    · rw [hlen]
      have : (base + len) * sz ≤ L.length * sz := Nat.mul_le_mul_right _ hl
      rw [Nat.add_mul] at this
      omega
    · rw [hlen] at hj
      obtain ⟨h4, h5⟩ := h3 (base + j) (by omega)
      simp only [nth_part hj]
      refine ⟨h4, fun s hs => ?_⟩
      rw [← h5 s hs]
      congr 1
      rw [Nat.add_mul]; omega
end
theorem HpAll.take {F : Fr} {w : World} : ∀ {H : Hp} (n : Nat), HpAll F w H → HpAll F w (H.take n)
  | [], n, _ => by simp [HpAll]
  | _ :: _, 0, _ => trivial
  | (b, m, o) :: H, n + 1, h => ⟨⟨h.1.1, h.1.2.1, fun e he => h.1.2.2 e (List.mem_of_mem_take he)⟩, HpAll.take n h.2⟩
theorem HpAll.drop {F : Fr} {w : World} : ∀ {H : Hp} (n : Nat), HpAll F w H → HpAll F w (H.drop n)
  | _, 0, h => h
  | [], n + 1, _ => trivial
  | _ :: _, n + 1, h => HpAll.drop n h.2
theorem run_clearAt {P : Program} {w : World} {t e ty : TypeId} {te : TI} {b o n cap u : Nat} {c : Array Value} (ht : P.underlying t = some (.slice e)) (hz : ∀ w, (zeroValue e).run P w = .ok te.zero w) (hb : w.heap[b]? = some (.cells c u (0, 0)))
    (hsz : o + (Builtin.zeroCells te.zero.cells n).size ≤ c.size) (hna : ∀ v ∈ (Builtin.zeroCells te.zero.cells n).toList, NotAgg v) :
    (Builtin.clear_ #[t] ty #[.slice (some ⟨b, o, none⟩) n cap]).run P w = .ok (.tuple #[]) (putBlk w b (.cells (putAll c o (Builtin.zeroCells te.zero.cells n).toList) u (0, 0))) := by
  rcases Nat.eq_zero_or_pos n with rfl | h0
  · have e1 : (Builtin.zeroCells te.zero.cells 0).toList = [] := by
      have : (Builtin.zeroCells te.zero.cells 0).size = 0 := by simp [Builtin.zeroCells]
      exact List.length_eq_zero_iff.1 (by simpa using this)
    rw [e1]
    simp only [putAll, putBlk_self hb]
    simp [Builtin.clear_, run_underlying ht]
  · have hst := run_storeCells (P := P) (Builtin.zeroCells te.zero.cells n).toList w c o 0 hb (by simpa using hsz) hna
    obtain ⟨m, rfl⟩ : ∃ m, n = m + 1 := ⟨n - 1, by omega⟩
    simp [Builtin.clear_, run_underlying ht, hz, hst]
theorem ArrRep.over {c : Array Value} {N base n : Nat} {row : Nat → List SV} {sz : Nat} {z : Array Value} (h : ArrRep c 0 N row sz) (hz : z.size = sz) (hn : base + n ≤ N) :
    ArrRep (putAll c (base * sz) (Builtin.zeroCells z n).toList) 0 N (fun q => if base ≤ q ∧ q < base + n then cellsV' z else row q) sz := by
  have l2 : (Builtin.zeroCells z n).toList.length = n * sz := by simp [Builtin.zeroCells, hz]
  have hfit : base * sz + (Builtin.zeroCells z n).toList.length ≤ c.size := by
    rw [l2, ← Nat.add_mul]
    have h2 : (base + n) * sz ≤ N * sz := Nat.mul_le_mul_right _ hn
    have := h.1
    omega
  refine ⟨by rw [putAll_size]; exact h.1, fun j hj => ?_⟩
  obtain ⟨h4, h5⟩ := h.2 j hj
  simp only [Nat.zero_add] at h5 ⊢
  by_cases hj1 : base ≤ j ∧ j < base + n
  · rw [if_pos hj1]
    refine ⟨by simp [cellsV', hz], fun s hs => ?_⟩
    have hb := idx_bound (sz := sz) (show j - base < n by omega)
    have e2 : j * sz = base * sz + (j - base) * sz := by rw [← Nat.add_mul]; congr 1; omega
    rw [putAll_get _ _ _ _ hfit, if_pos (by rw [l2]; omega)]
    have e3 : j * sz + s - base * sz = (j - base) * sz + s := by omega
    rw [e3, Array.getElem?_toList, zeroCells_get (by rw [hz]; omega), hz]
    have e5 : ((j - base) * sz + s) % sz = s := by rw [Nat.mul_comm, Nat.mul_add_mod]; exact Nat.mod_eq_of_lt hs
    rw [e5]
    simp [cellsV', denL_map_v]
  · rw [if_neg hj1]
    refine ⟨h4, fun s hs => ?_⟩
    rw [putAll_get _ _ _ _ hfit, if_neg ?_]
    · exact h5 s hs
    · rw [l2]
      rintro ⟨g1, g2⟩
      apply hj1
      have hsz : 0 < sz := by omega
      refine ⟨?_, ?_⟩
      · rcases Nat.lt_or_ge j base with h6 | h6
        · have := idx_bound (sz := sz) h6
          omega
        · exact h6
      · rcases Nat.lt_or_ge j (base + n) with h6 | h6
        · exact h6
        · have := Nat.mul_le_mul_right sz h6
          rw [Nat.add_mul] at this
          omega
theorem exec_clear {P : Program} {st : St} {o : Oper} {args : Array Operand} {t : TypeId} {x : SV} {a : Act} {w : World} (he : EnvRep st a) (hop : o.op = .call { callee := .builtin .clear, args := args, argTypes := #[t] }) (h : opds st 0 args.toList = some [x]) :
    (execOp a.eval o).run P w = ((Builtin.clear_ #[t] o.type #[den x]).run P w).andThen fun v w' => .ok (.value v) w' := by
  rw [exec_builtin he (c := 0) rfl hop h]
  simp [builtin, denL]
def flatB : Value → Bool
  | .agg _ => false
  | .tuple _ => false
  | _ => true
theorem NotAgg.of {v : Value} (h : flatB v = true) : NotAgg v := by
  cases v <;> first | trivial | cases h
theorem post_clear {P : Program} {C : Cfg} (htt : TTok P C.tt) {Q : Exit → Act → World → Prop} {F : Fr} {st : St} {all : Array Oper} {o : Oper} {l : List Oper} {k : List W} {a : Act} {w : World} (hr : RepX F st a w) (hw : o.guard = none) (hdst : o.dst = none) {args : Array Operand} {t : TypeId}
    (hop : o.op = .call { callee := .builtin .clear, args := args, argTypes := #[t] }) {i b base n cap sz N u : Nat} {row : Nat → List SV} (h : opds st 0 args.toList = some [.sl i b 0 base n cap sz]) {e : TypeId} {ti te : TI} (ht : lookT C.tt t = some ti) (hd1 : ti.d = .slice e) (hte : lookT C.tt e = some te) (hz : te.zero.cells.size = te.sz) (hsz : te.sz = sz)
    (hna : te.zero.cells.toList.all flatB = true) (hi : st.hp[i]? = some (b, true, .arr 0 N row sz u (0, 0))) (hn : base + n ≤ N)
    (hk : ∀ a' w', RepX F { st with hp := st.hp.set i (b, true, .arr 0 N (fun q => if base ≤ q ∧ q < base + n then cellsV' te.zero.cells else row q) sz u (0, 0)) } a' w' → post P Q (.ops all l :: k) .normal a' w') : post P Q (.ops all (o :: l) :: k) .normal a w := by
  subst hsz
  obtain ⟨c, hb, hr1⟩ := hr.hp i b true _ hi
  have hrun := run_clearAt (P := P) (w := w) (t := t) (ty := o.type) (te := te) (b := b) (o := base * te.sz) (n := n) (cap := cap) ((htt _ _ ht).slice hd1) (run_zeroValue' (htt _ _ hte)) hb (by
    have l2 : (Builtin.zeroCells te.zero.cells n).size = n * te.sz := by simp [Builtin.zeroCells, hz]
    rw [l2, ← Nat.add_mul]
    have h2 : (base + n) * te.sz ≤ N * te.sz := Nat.mul_le_mul_right _ hn
    have := hr1.1
    omega) (fun v hv => by
    obtain ⟨q, hq, rfl⟩ := List.mem_iff_getElem.1 hv
    have hq' : q < n * te.zero.cells.size := by simpa [Builtin.zeroCells] using hq
    have h3 := zeroCells_get (z := te.zero.cells) hq'
    rw [Array.getElem_toList]
    rw [Array.getElem?_eq_getElem (by simpa using hq)] at h3
    have h4 : 0 < te.zero.cells.size := by
      rcases Nat.eq_zero_or_pos te.zero.cells.size with h5 | h5
      · rw [h5] at hq'; simp at hq'
      · exact h5
    have h6 := Nat.mod_lt q h4
    rw [Array.getElem?_eq_getElem h6] at h3
    rw [Option.some.inj h3]
    exact NotAgg.of (List.all_eq_true.1 hna _ (Array.getElem_mem_toList h6)))
  have e1 := exec_clear (P := P) (w := w) (hr.env.same (st' := st) rfl rfl rfl rfl) hop h
  simp only [den, Nat.zero_add] at e1
  rw [hrun] at e1
  simp only [Result.andThen_ok] at e1
  refine post_step hw e1 ?_
  rw [hdst]
  have hm := hr.mem.store hi (new := .arr 0 N (fun q => if base ≤ q ∧ q < base + n then cellsV' te.zero.cells else row q) te.sz u (0, 0)) (o := .cells (putAll c (base * te.sz) (Builtin.zeroCells te.zero.cells n).toList) u (0, 0)) ⟨_, putBlk_same (lt_of_heap hb), hr1.over hz hn⟩
  refine hk _ _ (Rep.of_mem (hr.env.same rfl rfl rfl rfl) ?_)
  refine ⟨hm.hp, hm.mu, hm.nd, ?_, hm.kp⟩
  simp [putBlk_size]
def eqR : BinOp → Bool → Bool
  | .neq, b => !b
  | _, b => b
def isEq : BinOp → Bool
  | .eql => true
  | .neq => true
  | _ => false
theorem exec_eqG {P : Program} {C : Cfg} (htt : TTok P C.tt) {ok : Nat → Bool} (hok : ∀ t, ok t = true → eqSide P t = true) {st : St} {a : Act} {w : World} (he : EnvRep st a) {o : Oper} {op : BinOp} {t t' : Nat} {x y : Operand} (hop : o.op = .binOp op t x y t') (hq : isEq op = true) {xs ys : List SV}
    (hl : opds st 0 [x, y] = some [.ag xs, .ag ys]) (hg : P.eqGuardType P.depth t = false) {b : Bool} (h : evEqA C.tt ok 40 t (.ag xs) (.ag ys) = some b) : (execOp a.eval o).run P w = .ok (.value (.bool (eqR op b))) w := by
  have e := opds_sound he (c := 0) rfl _ _ hl
  simp only [List.map_cons, List.map_nil, denL, List.cons.injEq, and_true] at e
  simp only [execOp, hop, e.1, e.2, Sem.run_bind]
  have h1 := evEqA_sound htt hok 40 t _ _ _ h w 9960
  simp only [den] at h1 ⊢
  rw [run_eqGuard_agg w _ _ _ _ _ _ hg]
  simp only [Result.andThen_ok]
  cases op <;> first | (cases hq; done) | skip
  · rw [run_eql_struct, show (10000 : Nat) = 9960 + 40 from rfl, h1]
    rfl
  · rw [run_neq_struct, show (10000 : Nat) = 9960 + 40 from rfl, h1]
    rfl
theorem post_eqP {P : Program} {C : Cfg} (htt : TTok P C.tt) {ok : Nat → Bool} (hok : ∀ t, ok t = true → eqSide P t = true) {Q : Exit → Act → World → Prop} {F : Fr} {st : St} {all : Array Oper} {o : Oper} {l : List Oper} {k : List W} {a : Act} {w : World} (hr : RepX F st a w) {op : BinOp} {t t' : Nat} {x y : Operand} (hop : o.op = .binOp op t x y t') (hq : isEq op = true) {xs ys : List SV}
    (hl : opds st 0 [x, y] = some [.ag xs, .ag ys]) (hg : P.eqGuardType P.depth t = false) {b : Bool} (h : evEqA C.tt ok 40 t (.ag xs) (.ag ys) = some b) (hw : Region.wanted o (yielded all a.tmps) = true) {d : Nat} (hdst : o.dst = some d) (hdn : d < st.nt) (hks : st.ks.all (fun r => r.tj != d) = true)
    (hk : ∀ a', RepX F { st with env := (d, 0, .v (.bool (eqR op b))) :: st.env } a' w → post P Q (.ops all l :: k) .normal a' w) : post P Q (.ops all (o :: l) :: k) .normal a w := by
  refine post_stepG hw (exec_eqG htt hok (hr.env.same (st' := st) rfl rfl rfl rfl) hop hq hl hg h) ?_
  rw [hdst]
  exact hk _ (hr.retK (KeepsTo.refl w []) (by simp) d (.v (.bool (eqR op b))) rfl st.hp hr.all hdn hks)
theorem post_eqQ {P : Program} {C : Cfg} (htt : TTok P C.tt) {ok : Nat → Bool} (hok : ∀ t, ok t = true → eqSide P t = true) {Q : Exit → Act → World → Prop} {F : Fr} {st : St} {all : Array Oper} {hp0 : Hp} {o : Oper} {i j : Nat} {l : List (Nat × Nat)} {k : List W} {a : Act} {w : World} (hr : RepX F st a w) (ht : HpRep hp0 w) (hj : (j == 0 || j == 1) = true) (hi : all[i]? = some o) {op : BinOp} {t t' : Nat} {x y : Operand} (hop : o.op = .binOp op t x y t') (hq : isEq op = true) {xs ys : List SV}
    (hl : opds st 0 [x, y] = some [.ag xs, .ag ys]) (hg : P.eqGuardType P.depth t = false) {b : Bool} (h : evEqA C.tt ok 40 t (.ag xs) (.ag ys) = some b) (hw : Region.wanted o (yielded all a.tmps) = true) {d : Nat} (hdst : o.dst = some d) (hdn : d < st.nt) (hks : st.ks.all (fun r => r.tj != d) = true)
    (hk : ∀ a', RepX F { st with env := (d, 0, .v (.bool (eqR op b))) :: st.env } a' w → post P Q (.opsD all hp0 l :: k) .normal a' w) : post P Q (.opsD all hp0 ((i, j) :: l) :: k) .normal a w := by
  have hx : post P Q (.opsD all hp0 l :: k) .normal (a.put o.dst (.bool (eqR op b))) w := by
    rw [hdst]
    exact hk _ (hr.retK (KeepsTo.refl w []) (by simp) d (.v (.bool (eqR op b))) rfl st.hp hr.all hdn hks)
  simp only [Bool.or_eq_true, beq_iff_eq] at hj
  rcases hj with rfl | rfl
  · exact post_stepD0 hi hw (fun w' _ => exec_eqG htt hok (hr.env.same (st' := st) rfl rfl rfl rfl) hop hq hl hg h) hx
  · exact post_stepD hi hw (exec_eqG htt hok (hr.env.same (st' := st) rfl rfl rfl rfl) hop hq hl hg h) ht hx
section
variable {α : Type} {enc : α → List SV} {sz : Nat} {d : α} {Pb : Nat → Prop}
theorem RdS.lit {w : World} {s : Nat} {row : Nat → List SV} {u : TypeId} {fz : Nat × Nat} {x : α} (h : (SO.arr 0 1 row sz u fz).rep w s) (hx : denL (row 0) = denL (enc x)) :
    RdS enc sz d (fun y => y = s) w (.slice (some ⟨s, 0, none⟩) 1 1) [x] :=
  .inr ⟨by simp, s, 0, 1, u, fz, rfl, rfl, rep_arr_sub h (Nat.le_refl _) (fun j hj => by
    obtain rfl : j = 0 := by simpa using hj
    exact hx), Nat.le_refl _⟩
theorem app_ow {P : Program} {w : World} {t t' e e' ty : TypeId} {te : TI} {V src : Value} {L M : List α} {Q : Nat → Prop} (hPb : ∀ x, w.heap.size ≤ x → Pb x) (ht : P.underlying t = some (.slice e)) (ht' : P.underlying t' = some (.slice e')) (hte : te.ok P e)
    (hz : te.zero.cells.size = sz) (hsz : te.sz = sz) (hby : te.by_ ≠ 0) (hfl : ∀ x ∈ M, ∀ c ∈ enc x, NotAgg (den c)) (hbig : (2 * (L.length + M.length) + 192) * te.by_ ≤ 281474976710656)
    (hV : OwS enc sz d Pb w V L) (hS : RdS enc sz d Q w src M) :
    ∃ V' w' B, (Builtin.append_ #[t, t'] ty #[V, src]).run P w = .ok V' w' ∧ OwS enc sz d Pb w' V' (L ++ M) ∧ (∀ x ∈ B, Pb x ∧ x < w.heap.size) ∧ KeepsTo w B w' := by
  subst hsz
  rcases hS with ⟨rfl, ad, cp, rfl⟩ | ⟨h0, b2, o2, cap2, t2, fz2, _, rfl, hrep2, _⟩
  · obtain ⟨vd, vc, rfl⟩ := hV.slice
    have hvc : L.length ≤ vc := by
      rcases hV with ⟨h, _, e⟩ | ⟨b, N, cap, u, row, _, e, _, h, _⟩
      · subst h; simp
      · cases e; exact h
    exact ⟨_, w, [], run_append_zero ht ht' hte hvc, by simpa using hV, by simp, KeepsTo.refl w []⟩
  · obtain ⟨c2, hb2, hr2⟩ := hrep2
    have hA : AppArgs P w e te (.slice (some ⟨b2, o2, none⟩) M.length cap2) (fun j => enc (nth d M j)) 0 M.length := ⟨hte, hz, hby, b2, c2, cap2, t2, fz2, o2, M.length, by simp, hb2, hr2, by omega⟩
    have hgrow : ∀ (row : Nat → List SV) (ad : Option Addr) (cap : Nat), V = .slice ad L.length cap → (∀ j, j < L.length → (row (0 + j)).length = te.sz) → (∀ j, j < L.length → row j = enc (nth d L j)) →
        (Builtin.firstCells te.sz L.length V).run P { w with drawn := w.drawn + 1 } = .ok (rowsOf row 0 L.length).toArray { w with drawn := w.drawn + 1 } → cap < L.length + M.length →
        ∃ V' w' B, (Builtin.append_ #[t, t'] ty #[V, .slice (some ⟨b2, o2, none⟩) M.length cap2]).run P w = .ok V' w' ∧ OwS enc te.sz d Pb w' V' (L ++ M) ∧ (∀ x ∈ B, Pb x ∧ x < w.heap.size) ∧ KeepsTo w B w' := by
      intro row ad cap hdx hrl hrow hold hroom
      obtain ⟨newCap, h1, h2⟩ := run_append_grow (P := P) (w := w) (ty := ty) (row := row) ht ht' hA hdx hold hroom hbig
      have hrep := grown_rep (row := row) (row2 := fun j => enc (nth d M j)) (sz := te.sz) (len := L.length) (base2 := 0) (n := M.length) (cap := newCap) (z := te.zero.cells) hrl hA.len2 hz h1
      refine ⟨_, _, [], h2, .inr ⟨w.heap.size, newCap, newCap, e, _, hPb _ (Nat.le_refl _), by simp, by omega, by simpa using h1, Nat.le_refl _, ⟨_, heap_alloc_new (w := { w with drawn := w.drawn + 1 }), hrep⟩, fun j hj => ?_⟩, by simp, ?_⟩
      · simp only [List.length_append] at hj
        unfold appRow
        by_cases hj1 : j < L.length
        · rw [if_pos hj1, hrow j hj1, nth_append_left hj1]
        · rw [if_neg hj1, if_pos (by omega), Nat.zero_add]
          have e1 : j = L.length + (j - L.length) := by omega
          conv => rhs; rw [e1]
          rw [nth_append_right]
      · exact ⟨Nat.le_refl _, rfl, rfl, rfl, by show w.heap.size ≤ (w.heap.push _).size; simp, fun k hk _ => heap_alloc_lt (w := { w with drawn := w.drawn + 1 }) hk⟩
    rcases hV with ⟨rfl, ad, rfl⟩ | ⟨b, N, cap, u, row, hPbb, rfl, hc0, hlen, hcap, hrep, hrow⟩
    · exact hgrow (fun _ => List.replicate te.sz (.v undef)) ad 0 rfl (fun j hj => by simp at hj) (fun j hj => by simp at hj) (by cases ad <;> simp [Builtin.firstCells, rowsOf, loadCells, loadCellsFrom]) (by simpa using h0)
    · have hrep' := hrep
      obtain ⟨c, hb, hr⟩ := hrep'
      by_cases hroom : L.length + M.length ≤ cap
      · have h1 := run_append_room (P := P) (w := w) (ty := ty) (row2 := fun j => enc (nth d M j)) (base2 := 0) ht ht' hA hb hr hcap hroom (fun j hj x hx => hfl _ (nth_mem hj) x (by simpa using hx))
        have hor := hr.of_room (row2 := fun j => enc (nth d M j)) (base2 := 0) (n := M.length) (len := L.length) (by omega) hA.len2
        refine ⟨_, _, [b], h1, .inr ⟨b, N, cap, u, _, hPbb, by simp, hc0, by simpa using hroom, hcap, ⟨_, putBlk_same (lt_of_heap hb), hor⟩, fun j hj => ?_⟩, by simpa using ⟨hPbb, lt_of_heap hb⟩, putBlk_keeps⟩
        simp only [List.length_append] at hj
        by_cases hj1 : j < L.length
        · simp only [hj1, if_true]
          rw [hrow j hj1, nth_append_left hj1]
        · simp only [hj1, if_false, hj, if_true, Nat.zero_add]
          have e1 : j = L.length + (j - L.length) := by omega
          conv => rhs; rw [e1]
          rw [nth_append_right]
      · refine hgrow row (some ⟨b, 0, none⟩) cap rfl (fun j hj => (hr.2 _ (by omega)).1) hrow ?_ (by omega)
        have := run_loadRows (P := P) (w := { w with drawn := w.drawn + 1 }) hb hr (base := 0) (n := L.length) (by omega)
        simpa [Builtin.firstCells] using this
theorem post_app {P : Program} {C : Cfg} (htt : TTok P C.tt) {Qe : Exit → Act → World → Prop} {F : Fr} {st : St} {all : Array Oper} {o : Oper} {l : List Oper} {k : List W} {a : Act} {w : World} (hr : RepX F st a w) (hw : Region.wanted o (yielded all a.tmps) = true) {dd : Nat} (hdst : o.dst = some dd) (hdn : dd < st.nt) (hks : st.ks.all (fun r => r.tj != dd) = true)
    {x y : SV} {t t' : TypeId} (he : evApp st o.op = some (x, y, t, t')) {e e' : TypeId} {ti ti' te : TI} (ht : lookT C.tt t = some ti) (hd1 : ti.d = .slice e) (ht' : lookT C.tt t' = some ti') (hd2 : ti'.d = .slice e') (hte : lookT C.tt e = some te) (hz : te.zero.cells.size = sz) (hsz : te.sz = sz) (hby : te.by_ ≠ 0)
    {L M : List α} {Q : Nat → Prop} (hfl : ∀ x ∈ M, ∀ c ∈ enc x, NotAgg (den c)) (hbig : (2 * (L.length + M.length) + 192) * te.by_ ≤ 281474976710656) (hPb : ∀ x, w.heap.size ≤ x → Pb x) (hV : OwS enc sz d Pb w (den x) L) (hS : RdS enc sz d Q w (den y) M)
    (H : Hp) (hH : ∀ w' B, KeepsTo w B w' → (∀ x ∈ B, Pb x ∧ x < w.heap.size) → HpAll F w' H) (hF : ∀ x, Pb x → F.B ≤ x ∨ x ∈ F.M)
    (hk : ∀ V' a' w' B, OwS enc sz d Pb w' V' (L ++ M) → (∀ x ∈ B, Pb x ∧ x < w.heap.size) → KeepsTo w B w' → RepX F { st with env := (dd, 0, .v V') :: st.env, hp := H } a' w' → post P Qe (.ops all l :: k) .normal a' w') : post P Qe (.ops all (o :: l) :: k) .normal a w := by
  obtain ⟨V', w', B, h1, h2, h3, h4⟩ := app_ow (ty := o.type) hPb ((htt _ _ ht).slice hd1) ((htt _ _ ht').slice hd2) (htt _ _ hte) hz hsz hby hfl hbig hV hS
  refine post_appE hr hw hdst he h1 ?_
  exact hk V' _ w' B h2 h3 h4 (hr.retK h4 (fun b hb => hF b (h3 b hb).1) dd (.v V') rfl H (hH w' B h4 h3) hdn hks)
end
theorem mid_ok (lo hi : Nat) (h : lo + hi ≤ 4611686018427387904) : IntKind.i64.wrap ((IntKind.u64.wrap ((lo : Int) + hi)).fdiv (2 ^ min 1 IntKind.u64.bits)) = (((lo + hi) / 2 : Nat) : Int) := by
  rw [IntWalk.u64_in _ (by omega)]
  have e : (2 : Int) ^ min 1 IntKind.u64.bits = 2 := by decide
  rw [e, Int.fdiv_eq_ediv_of_nonneg _ (by decide), IntWalk.i64_in _ (by omega)]
  omega
theorem post_enterD {P : Program} {Q : Exit → Act → World → Prop} (hm : P.follows .mixedOrders = true) (hQ : PanicFree Q) {F : Fr} {st : St} {id : Nat} {ops : Array Oper} {ord : List (Nat × Nat)} {k : List W} {a : Act} {w : World} (hok : ordOK ops ord = true) (hr : RepX F st a w) (H0 : Hp) (h0 : HpRep H0 w)
    (hk : RepX F st a { w with drawn := w.drawn + 1 } → HpRep H0 { w with drawn := w.drawn + 1 } → post P Q (.opsD ops H0 ord :: k) .normal a { w with drawn := w.drawn + 1 }) : post P Q (.code (.region id ops true) :: k) .normal a w :=
  wp_region_seqD hm hok (fun c a d v w => hQ.post k c a d v w) (HpRep.drew h0) (HpRep.frz (HpRep.drew h0)) (hk hr.drew (HpRep.drew h0))
end Go.SX
namespace Go.SX
open Go Go.RowKit
theorem zeroCells_rows (z : Array Value) (n : Nat) : Builtin.zeroCells z n = (rowsOf (fun _ => cellsV' z) 0 n).toArray := by
  have hl : (rowsOf (fun _ => cellsV' z) 0 n).length = n * z.size := rowsOf_length (fun j _ => by simp [cellsV'])
  apply Array.ext_getElem?
  intro i
  rcases Nat.lt_or_ge i (n * z.size) with h | h
  · have hs : 0 < z.size := by
      rcases Nat.eq_zero_or_pos z.size with h0 | h0
      · rw [h0] at h; simp at h
      · exact h0
    have h1 : i / z.size < n := Nat.div_lt_of_lt_mul (by rw [Nat.mul_comm]; exact h)
    have h2 := Nat.mod_lt i hs
    have h3 : i = i / z.size * z.size + i % z.size := by have := Nat.div_add_mod i z.size; rw [Nat.mul_comm] at this; omega
    have e := rowsOf_get (row := fun _ => cellsV' z) (sz := z.size) (n := n) (base := 0) (j := i / z.size) (s := i % z.size) (fun j _ => by simp [cellsV']) h1 h2
    rw [← h3] at e
    rw [zeroCells_get h]
    simp only [List.getElem?_toArray, e]
    simp [cellsV', denL_map_v]
  · rw [Array.getElem?_eq_none (by simp [Builtin.zeroCells]; exact h), List.getElem?_toArray, List.getElem?_eq_none (by omega)]
section
variable {α : Type} {enc : α → List SV} {sz : Nat} {d : α} {Pb : Nat → Prop}
theorem nth_rep {α : Type} {d : α} {L : List α} {n j : Nat} : nth d (L ++ List.replicate n d) j = nth d L j := by
  unfold nth
  simp only [List.getD_eq_getElem?_getD]
  rcases Nat.lt_or_ge j L.length with h | h
  · rw [List.getElem?_append_left h]
  · rw [List.getElem?_append_right h, List.getElem?_eq_none h, List.getElem?_replicate]
    split <;> rfl
end
end Go.SX
namespace Go.SX
open Go Go.RowKit
def copyRow (row row2 : Nat → List SV) (dB base2 n : Nat) : Nat → List SV := fun q => if q < dB then row q else if q < dB + n then row2 (base2 + (q - dB)) else row q
theorem run_copy {P : Program} {w : World} {t t' e ty : TypeId} {te : TI} {b dB dn dcap N u : Nat} {c : Array Value} {row : Nat → List SV} {b2 o2 base2 sn scap N2 u2 : Nat} {fz2 : Nat × Nat} {c2 : Array Value} {row2 : Nat → List SV}
    (ht : P.underlying t = some (.slice e)) (hte : te.ok P e) (hb : w.heap[b]? = some (.cells c u (0, 0))) (hr : ArrRep c 0 N row te.sz) (hb2 : w.heap[b2]? = some (.cells c2 u2 fz2)) (hr2 : ArrRep c2 o2 N2 row2 te.sz)
    (hn : dB + min sn dn ≤ N) (hn2 : base2 + min sn dn ≤ N2) (hna : ∀ j, j < min sn dn → ∀ x ∈ row2 (base2 + j), NotAgg (den x)) :
    (Builtin.copy_ #[t, t'] ty #[.slice (some ⟨b, dB * te.sz, none⟩) dn dcap, .slice (some ⟨b2, o2 + base2 * te.sz, none⟩) sn scap]).run P w = .ok (.int .i64 ((min sn dn : Nat) : Int)) (putBlk w b (.cells (putAll c (dB * te.sz) (rowsOf row2 base2 (min sn dn))) u (0, 0))) := by
  have hlen : ∀ j, j < min sn dn → (row2 (base2 + j)).length = te.sz := fun j hj => (hr2.2 (base2 + j) (by omega)).1
  have hld := run_loadRows (P := P) hb2 hr2 hn2
  have hst := run_storeCells (P := P) (rowsOf row2 base2 (min sn dn)) w c (dB * te.sz) 0 hb (by
    rw [rowsOf_length hlen, Nat.add_zero, ← Nat.add_mul]
    have h1 := hr.1
    have h2 : (dB + min sn dn) * te.sz ≤ N * te.sz := Nat.mul_le_mul_right _ hn
    omega) (fun v hv => by
    obtain ⟨j, hj, x, hx, rfl⟩ := mem_rowsOf hv
    exact hna j hj x hx)
  simp only [Builtin.copy_, Builtin.lenOf, Builtin.firstCells, Sem.run_bind, run_underlying ht, Result.andThen_ok, run_sizeOf' hte, List.getElem?_toArray, List.getElem?_cons_zero, List.getElem?_cons_succ, Sem.run_pure]
  rw [show Nat.min sn dn = min sn dn from rfl, hld]
  simp only [Result.andThen_ok, hst, Nat.add_zero, goInt]
theorem RepX.copy {P : Program} {C : Cfg} (htt : TTok P C.tt) {F : Fr} {st : St} {o : Oper} {a : Act} {w : World} (hr : RepX F st a w) {args : Array Operand} {t t' : TypeId}
    (hop : o.op = .call { callee := .builtin .copy, args := args, argTypes := #[t, t'] }) {i b dB dn dcap sz N u j b2 o2 base2 sn scap N2 u2 : Nat} {m2 : Bool} {fz2 : Nat × Nat} {row row2 : Nat → List SV} (h : opds st 0 args.toList = some [.sl i b 0 dB dn dcap sz, .sl j b2 o2 base2 sn scap sz])
    {e : TypeId} {ti te : TI} (ht : lookT C.tt t = some ti) (hd1 : ti.d = .slice e) (hte : lookT C.tt e = some te) (hsz : te.sz = sz) (hi : st.hp[i]? = some (b, true, .arr 0 N row sz u (0, 0))) (hj : st.hp[j]? = some (b2, m2, .arr o2 N2 row2 sz u2 fz2))
    (hn : dB + min sn dn ≤ N) (hn2 : base2 + min sn dn ≤ N2) (hna : ∀ q, q < min sn dn → ∀ x ∈ row2 (base2 + q), NotAgg (den x)) :
    ∃ w', (execOp a.eval o).run P w = .ok (.value (.int .i64 ((min sn dn : Nat) : Int))) w' ∧ RepX F { st with hp := st.hp.set i (b, true, .arr 0 N (copyRow row row2 dB base2 (min sn dn)) sz u (0, 0)) } a w' := by
  subst hsz
  obtain ⟨c, hb, hr1⟩ := hr.hp i b true _ hi
  obtain ⟨c2, hb2, hr2⟩ := hr.hp j b2 m2 _ hj
  have hrun := run_copy (P := P) (w := w) (t' := t') (ty := o.type) (dcap := dcap) (scap := scap) ((htt _ _ ht).slice hd1) (htt _ _ hte) hb hr1 hb2 hr2 hn hn2 hna
  have e1 := exec_builtin (P := P) (w := w) (hr.env.same (st' := st) rfl rfl rfl rfl) (c := 0) rfl hop h
  simp only [builtin, denL, den, Nat.zero_add, Sem.run_bind] at e1
  rw [hrun] at e1
  simp only [Result.andThen_ok, Sem.run_pure] at e1
  have hm := hr.mem.store hi (new := .arr 0 N (copyRow row row2 dB base2 (min sn dn)) te.sz u (0, 0)) (o := .cells (putAll c (dB * te.sz) (rowsOf row2 base2 (min sn dn))) u (0, 0)) ⟨_, putBlk_same (lt_of_heap hb), hr1.of_room hn fun q hq => (hr2.2 (base2 + q) (by omega)).1⟩
  refine ⟨_, e1, Rep.of_mem (hr.env.same rfl rfl rfl rfl) ?_⟩
  refine ⟨hm.hp, hm.mu, hm.nd, ?_, hm.kp⟩
  simp [putBlk_size]
section
variable {α : Type} {enc : α → List SV} {sz : Nat} {d : α} {Pb : Nat → Prop}
set_option linter.unusedSimpArgs false in
set_option maxRecDepth 100000 in
theorem app_make_new {P : Program} {w : World} {t t' e ty : TypeId} {k : IntKind} {te : TI} {V : Value} {L : List α} {n : Nat} (ht : P.underlying t = some (.slice e)) (ht' : P.underlying t' = some (.int k)) (hte : te.ok P e)
    (hz : te.zero.cells.size = sz) (hsz : te.sz = sz) (hs0 : 0 < sz) (hd : enc d = cellsV' te.zero.cells) (hby : te.by_ ≠ 0) (hfl : ∀ c ∈ enc d, NotAgg (den c)) (hn : 0 < n) (hbig : (2 * (L.length + n) + 192) * te.by_ ≤ 281474976710656) (hlim : n ≤ 281474976710656)
    (hV : RdS enc sz d Pb w V L) {ad0 : Option Addr} {cap0 : Nat} (hv0 : V = .slice ad0 L.length cap0) (hno : cap0 < L.length + n) :
    ∃ V' w', (Builtin.append_ #[t, t'] ty #[V, .int .i64 n]).run P w = .ok V' w' ∧ OwS enc sz d (fun x => w.heap.size ≤ x) w' V' (L ++ List.replicate n d) ∧ KeepsTo w [] w' := by
  subst hsz
  obtain ⟨xi, hi1, hi2, hi3, hi4⟩ := hte.info
  have hinfo : ∀ w, (typeInfo e).run P w = .ok xi w := fun w => by simp [typeInfo, hi1]
  have hwr : IntKind.i64.wrap (n : Int) = n := wrap_inK (by unfold inK; omega)
  have hnb : n * te.by_ ≤ 281474976710656 := Nat.le_trans (Nat.mul_le_mul_right _ (by omega)) hbig
  have hnb' : ¬ ((n : Int) * (xi.bytes : Int) > 2 ^ 48) := by
    rw [hi3]
    intro h8
    have h9 : ((n * te.by_ : Nat) : Int) = (n : Int) * (te.by_ : Int) := Int.natCast_mul n te.by_
    rw [← h9] at h8
    omega
  have hzn : ¬ n * te.sz = 0 := by
    have := Nat.mul_pos hn hs0
    omega
  have hroomR : ∀ q (w : World), (askRoom q).run P w = .ok () w := fun q w => by
    unfold askRoom
    split
    · simp [mark, Sem.run]
    · rfl
  have hzr : ∀ j, j < n → ((fun _ : Nat => cellsV' te.zero.cells) (0 + j)).length = te.sz := fun j _ => by simp [cellsV', hz]
  have hgrow : ∀ (row : Nat → List SV) (ad : Option Addr) (cap : Nat), V = .slice ad L.length cap → (∀ j, j < L.length → (row (0 + j)).length = te.sz) → (∀ j, j < L.length → row j = enc (nth d L j)) →
      (Builtin.firstCells te.sz L.length V).run P { w with drawn := w.drawn + 1 } = .ok (rowsOf row 0 L.length).toArray { w with drawn := w.drawn + 1 } → cap < L.length + n →
      ∃ V' w', (Builtin.append_ #[t, t'] ty #[V, .int .i64 n]).run P w = .ok V' w' ∧ OwS enc te.sz d (fun x => w.heap.size ≤ x) w' V' (L ++ List.replicate n d) ∧ KeepsTo w [] w' := by
    intro row ad cap hdx hrl hrow hold hroom
    subst hdx
    have hnr : ¬ L.length + n ≤ cap := by omega
    have hcapb : ¬ Builtin.nextslicecap (L.length + n) cap * xi.bytes > 2 ^ 48 := by
      have h1 := nextslicecap_le hroom
      have h2 : Builtin.nextslicecap (L.length + n) cap * xi.bytes ≤ (2 * (L.length + n) + 192) * te.by_ := by rw [hi3]; exact Nat.mul_le_mul_right _ h1
      omega
    have hch : (choose (.appendCap (L.length + n) cap e)).run P w = .ok ((Question.appendCap (L.length + n) cap e).cut (w.tape w.drawn (.appendCap (L.length + n) cap e))) { w with drawn := w.drawn + 1 } := by
      first | rfl | simp only [choose, Sem.run, Question.forced]
    have hmax : IntKind.i64.max = 9223372036854775807 := by decide
    have hbig1 : ¬ (((L.length + n : Nat) : Int) > IntKind.i64.max) := by
      rw [hmax]
      have : (L.length + n) * 1 ≤ (2 * (L.length + n) + 192) * te.by_ := Nat.mul_le_mul (by omega) (by omega)
      omega
    obtain ⟨newCap, hnc, hncq⟩ : ∃ q, L.length + n ≤ q ∧ (Question.appendCap (L.length + n) cap e).cut (w.tape w.drawn (.appendCap (L.length + n) cap e)) = q := ⟨_, Nat.le_add_right _ _, rfl⟩
    rw [hncq] at hch
    have hrep := grown_rep (row := row) (row2 := fun _ => cellsV' te.zero.cells) (sz := te.sz) (len := L.length) (base2 := 0) (n := n) (cap := newCap) (z := te.zero.cells) hrl hzr hz hnc
    refine ⟨.slice (some ⟨w.heap.size, 0, none⟩) (L.length + n) newCap, ({ w with drawn := w.drawn + 1 } : World).alloc (.cells ((rowsOf row 0 L.length).toArray ++ (rowsOf (fun _ => cellsV' te.zero.cells) 0 n).toArray ++ Builtin.zeroCells te.zero.cells (newCap - (L.length + n))) e), ?_, .inr ⟨w.heap.size, newCap, newCap, e, _, Nat.le_refl _, by rw [List.length_append, List.length_replicate], by omega, by rw [List.length_append, List.length_replicate]; exact hnc, Nat.le_refl _, ⟨_, heap_alloc_new (w := { w with drawn := w.drawn + 1 }), hrep⟩, fun j hj => ?_⟩, ?_⟩
    · simp only [Builtin.append_, Sem.run_bind, run_underlying ht, Result.andThen_ok, run_sizeOf' hte, List.getElem?_toArray, List.getElem?_cons_zero, List.getElem?_cons_succ, run_underlying ht', Sem.run_pure, if_true, asInt, asIntOf, hwr, hinfo]
      rw [if_neg (by omega)]
      simp only [Sem.run_pure, Result.andThen_ok, Sem.run_bind, hinfo]
      rw [if_neg hnb']
      simp only [Sem.run_pure, Result.andThen_ok, Sem.run_bind, hinfo, Int.toNat_natCast, if_neg hnr]
      rw [if_neg (fun h => hbig1 h.1)]
      simp only [Sem.run_pure, Sem.run_bind, hinfo, Result.andThen_ok, if_neg hcapb, hch, hroomR, hold, Bool.not_true, Bool.false_eq_true, if_false, if_neg hzn, run_zeroValue' hte, newRow, newObj, Sem.run]
      rw [← zeroCells_rows]
      rfl
    · simp only [List.length_append, List.length_replicate] at hj
      rw [nth_rep]
      unfold appRow
      by_cases hj1 : j < L.length
      · rw [if_pos hj1, hrow j hj1]
      · rw [if_neg hj1, if_pos (by omega)]
        have e1 : nth d L j = d := by simp [nth, List.getD_eq_getElem?_getD, List.getElem?_eq_none (show L.length ≤ j by omega)]
        rw [e1, hd]
    · exact ⟨Nat.le_refl _, rfl, rfl, rfl, by show w.heap.size ≤ (w.heap.push _).size; simp, fun k hk _ => heap_alloc_lt (w := { w with drawn := w.drawn + 1 }) hk⟩
  rcases hV with ⟨rfl, ad, cp, rfl⟩ | ⟨h0, b, o0, cap, u, fz, _, rfl, ⟨c, hb, hr⟩, _⟩
  · cases hv0
    exact hgrow (fun _ => List.replicate te.sz (.v undef)) ad0 cap0 rfl (fun j hj => by simp at hj) (fun j hj => by simp at hj) (by cases ad0 <;> simp [Builtin.firstCells, rowsOf, loadCells, loadCellsFrom]) hno
  · cases hv0
    refine hgrow (fun j => enc (nth d L j)) (some ⟨b, o0, none⟩) cap0 rfl (fun j hj => (hr.2 _ (by omega)).1) (fun _ _ => rfl) ?_ hno
    have := run_loadRows (P := P) (w := { w with drawn := w.drawn + 1 }) hb hr (base := 0) (n := L.length) (by omega)
    simpa [Builtin.firstCells] using this
theorem post_appMakeN {P : Program} {C : Cfg} (htt : TTok P C.tt) {Qe : Exit → Act → World → Prop} {F : Fr} {st : St} {all : Array Oper} {o : Oper} {l : List Oper} {k : List W} {a : Act} {w : World} (hr : RepX F st a w) (hw : Region.wanted o (yielded all a.tmps) = true) {dd : Nat} (hdst : o.dst = some dd) (hdn : dd < st.nt) (hks : st.ks.all (fun r => r.tj != dd) = true)
    {x : SV} {n : Nat} {t t' : TypeId} (he : evApp st o.op = some (x, .v (.int .i64 n), t, t')) {e : TypeId} {kk : IntKind} {ti ti' te : TI} (ht : lookT C.tt t = some ti) (hd1 : ti.d = .slice e) (ht' : lookT C.tt t' = some ti') (hd2 : ti'.d = .int kk) (hte : lookT C.tt e = some te) (hz : te.zero.cells.size = sz) (hsz : te.sz = sz) (hs0 : 0 < sz) (hd : enc d = cellsV' te.zero.cells) (hby : te.by_ ≠ 0)
    {L : List α} (hfl : ∀ c ∈ enc d, NotAgg (den c)) (hn : 0 < n) (hbig : (2 * (L.length + n) + 192) * te.by_ ≤ 281474976710656) (hlim : n ≤ 281474976710656) (hV : RdS enc sz d Pb w (den x) L) {ad0 : Option Addr} {cap0 : Nat} (hv0 : den x = .slice ad0 L.length cap0) (hno : cap0 < L.length + n)
    (hk : ∀ V' a' w', OwS enc sz d (fun x => w.heap.size ≤ x) w' V' (L ++ List.replicate n d) → KeepsTo w [] w' → RepX F { st with env := (dd, 0, .v V') :: st.env } a' w' → post P Qe (.ops all l :: k) .normal a' w') : post P Qe (.ops all (o :: l) :: k) .normal a w := by
  obtain ⟨V', w', h1, h2, h4⟩ := app_make_new (ty := o.type) ((htt _ _ ht).slice hd1) ((htt _ _ ht').int hd2) (htt _ _ hte) hz hsz hs0 hd hby hfl hn hbig hlim hV hv0 hno
  refine post_appE hr hw hdst he h1 ?_
  exact hk V' _ w' h2 h4 (hr.retK h4 (by simp) dd (.v V') rfl st.hp (HpAll.to h4 hr.all (by simp)) hdn hks)
end
theorem frz_thaw (H : Hp) : frz (thaw H) = [] := by simp [frz, thaw]
theorem exec_overlaps {P : Program} {st : St} {o : Oper} {g : FuncId} {fn : Func} {a : Act} {w : World} (hr : EnvRep st a) (hp : HpRep st.hp w) {i j b b' o1 o2 base1 base2 len1 cap1 len2 cap2 sz1 sz2 n1 n2 m1 u1 u2 q1 q2 : Nat} {mu1 mu2 : Bool} {row1 row2 : Nat → List SV}
    (h : evCall st 0 o.op = some (g, [.sl i b o1 base1 len1 cap1 sz1, .sl j b' o2 base2 len2 cap2 sz2])) (hf : P.funcs[g]? = some fn) (hname : (fn.name == "runtime.NumGoroutine") = false) (hb : fn.body.isNone = true) (hn : Extern.findNext fn = none)
    {tS tR e : TypeId} (he : Extern.find fn = some (Extern.SlicesOverlaps.overlaps #[tS, tS] #[tR])) {C : Cfg} (htt : TTok P C.tt) {ti te : TI} (ht : lookT C.tt tS = some ti) (hd : ti.d = .slice e) (hte : lookT C.tt e = some te)
    (hi : st.hp[i]? = some (b, mu1, .arr q1 n1 row1 sz1 u1 (0, 0))) (hj : st.hp[j]? = some (b', mu2, .arr q2 n2 row2 sz2 u2 (0, 0))) (hne : b ≠ b') (h0 : m1 < n2) (hs : 0 < sz2) : (execOp a.eval o).run P w = .ok (.value (.bool false)) w := by
  obtain ⟨c1, hb1, _⟩ := hp i b mu1 _ hi
  obtain ⟨c2, hb2, hr2⟩ := hp j b' mu2 _ hj
  have hc2 : c2.size ≠ 0 := by
    have h1 := hr2.1
    have h2 : 1 * 1 ≤ n2 * sz2 := Nat.mul_le_mul (by omega) (by omega)
    omega
  rw [exec_callFunc hr (c := 0) rfl h]
  simp only [denL, den]
  rw [run_callFunc_extern hf hname hb hn he, Go.Lib.run_overlaps_apart (P := P) w tS tR e ((htt _ _ ht).slice hd) te.sz (fun w => run_sizeOf' (htt _ _ hte) w) ⟨b, o1 + base1 * sz1, none⟩ ⟨b', o2 + base2 * sz2, none⟩ len1 cap1 len2 cap2 hne u1 u2 c1.size c2.size (by simp [World.shape?, hb1]) (by simp [World.shape?, hb2]) hc2 (by simp [World.frozen?, hb1]) (by simp [World.frozen?, hb1])]
  rfl
theorem post_copy {P : Program} {C : Cfg} (htt : TTok P C.tt) {Q : Exit → Act → World → Prop} {F : Fr} {st : St} {all : Array Oper} {l : List Oper} {k : List W} {o : Oper} {a : Act} {w : World} (hr : RepX F st a w) (hw : o.guard = none) {dd : Nat} (hdst : o.dst = some dd) (hdn : dd < st.nt) (hks : st.ks.all (fun r => r.tj != dd) = true) {args : Array Operand} {t t' : TypeId}
    (hop : o.op = .call { callee := .builtin .copy, args := args, argTypes := #[t, t'] }) {i b dB dn dcap sz N u j b2 o2 base2 sn scap N2 u2 : Nat} {m2 : Bool} {fz2 : Nat × Nat} {row row2 : Nat → List SV} (h : opds st 0 args.toList = some [.sl i b 0 dB dn dcap sz, .sl j b2 o2 base2 sn scap sz])
    {e : TypeId} {ti te : TI} (ht : lookT C.tt t = some ti) (hd1 : ti.d = .slice e) (hte : lookT C.tt e = some te) (hsz : te.sz = sz) (hi : st.hp[i]? = some (b, true, .arr 0 N row sz u (0, 0))) (hj : st.hp[j]? = some (b2, m2, .arr o2 N2 row2 sz u2 fz2))
    (hn : dB + min sn dn ≤ N) (hn2 : base2 + min sn dn ≤ N2) (hna : ∀ q, q < min sn dn → ∀ x ∈ row2 (base2 + q), NotAgg (den x))
    (hk : ∀ a' w', RepX F { st with env := (dd, 0, .v (.int .i64 ((min sn dn : Nat) : Int))) :: st.env, hp := st.hp.set i (b, true, .arr 0 N (copyRow row row2 dB base2 (min sn dn)) sz u (0, 0)) } a' w' → post P Q (.ops all l :: k) .normal a' w') : post P Q (.ops all (o :: l) :: k) .normal a w := by
  obtain ⟨w', h1, h2⟩ := hr.copy (C := C) htt hop h ht hd1 hte hsz hi hj hn hn2 hna
  refine post_step hw h1 ?_
  rw [hdst]
  exact hk _ _ (h2.retK (KeepsTo.refl w' []) (by simp) dd (.v (.int .i64 ((min sn dn : Nat) : Int))) rfl _ h2.all hdn hks)
theorem post_copyD {P : Program} {C : Cfg} (htt : TTok P C.tt) {Q : Exit → Act → World → Prop} {F : Fr} {st : St} {all : Array Oper} {hp0 : Hp} {ix : Nat} {k : List W} {o : Oper} {a : Act} {w : World} (hr : RepX F st a w) (hix : all[ix]? = some o) (hf : frz hp0 = []) (hw : o.guard = none) {dd : Nat} (hdst : o.dst = some dd) (hdn : dd < st.nt) (hks : st.ks.all (fun r => r.tj != dd) = true) {args : Array Operand} {t t' : TypeId}
    (hop : o.op = .call { callee := .builtin .copy, args := args, argTypes := #[t, t'] }) {i b dB dn dcap sz N u j b2 o2 base2 sn scap N2 u2 : Nat} {m2 : Bool} {fz2 : Nat × Nat} {row row2 : Nat → List SV} (h : opds st 0 args.toList = some [.sl i b 0 dB dn dcap sz, .sl j b2 o2 base2 sn scap sz])
    {e : TypeId} {ti te : TI} (ht : lookT C.tt t = some ti) (hd1 : ti.d = .slice e) (hte : lookT C.tt e = some te) (hsz : te.sz = sz) (hi : st.hp[i]? = some (b, true, .arr 0 N row sz u (0, 0))) (hj : st.hp[j]? = some (b2, m2, .arr o2 N2 row2 sz u2 fz2))
    (hn : dB + min sn dn ≤ N) (hn2 : base2 + min sn dn ≤ N2) (hna : ∀ q, q < min sn dn → ∀ x ∈ row2 (base2 + q), NotAgg (den x))
    (hk : ∀ a' w', RepX F { st with env := (dd, 0, .v (.int .i64 ((min sn dn : Nat) : Int))) :: st.env, hp := st.hp.set i (b, true, .arr 0 N (copyRow row row2 dB base2 (min sn dn)) sz u (0, 0)) } a' w' → post P Q k .normal a' w') : post P Q (.opsD all hp0 [(ix, 3)] :: k) .normal a w := by
  obtain ⟨w', h1, h2⟩ := hr.copy (C := C) htt hop h ht hd1 hte hsz hi hj hn hn2 hna
  refine post_stepD3 hix (wanted_none hw) h1 (by rw [hf]; exact HpRep.nil) ?_
  rw [hdst]
  show wpSeqD P all (post P Q k) (HpRep hp0) (HpRep (frz hp0)) [] _ _
  unfold wpSeqD
  exact hk _ _ (h2.retK (KeepsTo.refl w' []) (by simp) dd (.v (.int .i64 ((min sn dn : Nat) : Int))) rfl _ h2.all hdn hks)
end Go.SX
namespace Go.SX
open Go Go.MapKept Go.ChangeMaps Go.WideShapes Go.ChangeShapes
open Go.WideMaps (KeyLaw)
section
variable {K : Type} [DecidableEq K] (kv : K → Value) (G : K → Prop)
def mkE (e : K × Value × Nat) : MapEntry := { key := kv e.1, val := e.2.1, born := e.2.2 }
def KM (es : Array MapEntry) (clk : Nat) (m : K → Option Value) : Prop :=
  ∃ l : List (K × Value × Nat), es = (l.map (mkE kv)).toArray ∧ (∀ e ∈ l, G e.1) ∧ (l.map (·.1)).Nodup ∧ (l.map (·.2.2)).Nodup ∧ (∀ e ∈ l, e.2.2 < clk) ∧ ∀ k x, m k = some x ↔ ∃ n, (k, x, n) ∈ l
def updK (m : K → Option Value) (k : K) (x : Value) : K → Option Value := fun j => if j = k then some x else m j
theorem KM.empty : KM kv G #[] 0 (fun _ => none) := ⟨[], rfl, by simp, by simp, by simp, by simp, by simp⟩
structure KeyOK (P : Program) (kt : TypeId) : Prop where
  law : KeyLaw P kt
  good : ∀ k, G k → ∃ l, keyOf P kt (kv k) = some l
  inj : ∀ a b, kv a = kv b → a = b
variable {kv G}
theorem KM.push {l : List (K × Value × Nat)} {clk : Nat} {m : K → Option Value} {k : K} {x : Value} (hG : ∀ e ∈ l, G e.1) (hk : G k) (h1 : (l.map (·.1)).Nodup) (h2 : (l.map (·.2.2)).Nodup) (h3 : ∀ e ∈ l, e.2.2 < clk) (h4 : ∀ k x, m k = some x ↔ ∃ n, (k, x, n) ∈ l)
    (hn : ∀ x n, (k, x, n) ∉ l) : KM kv G ((l.map (mkE kv)).toArray.push { key := kv k, val := x, born := clk }) (clk + 1) (updK m k x) := by
  refine ⟨l ++ [(k, x, clk)], by simp [mkE], ?_, ?_, ?_, ?_, ?_⟩
  · intro e he
    rcases List.mem_append.1 he with he | he
    · exact hG e he
    · simp only [List.mem_singleton] at he; subst he; exact hk
  · rw [List.map_append, List.nodup_append]
    refine ⟨h1, by simp, fun a ha b hb hab => ?_⟩
    simp only [List.map_cons, List.map_nil, List.mem_singleton] at hb
    obtain ⟨e, he, rfl⟩ := List.mem_map.1 ha
    subst hb
    exact hn e.2.1 e.2.2 (by rw [← hab]; exact he)
  · rw [List.map_append, List.nodup_append]
    refine ⟨h2, by simp, fun a ha b hb hab => ?_⟩
    simp only [List.map_cons, List.map_nil, List.mem_singleton] at hb
    obtain ⟨e, he, rfl⟩ := List.mem_map.1 ha
    have := h3 e he
    omega
  · intro e he
    rcases List.mem_append.1 he with he | he
    · have := h3 e he; omega
    · simp only [List.mem_singleton] at he; subst he; simp
  · intro j y
    simp only [updK, List.mem_append, List.mem_singleton]
    by_cases hj : j = k
    · subst hj
      simp only [if_true, Option.some.injEq]
      constructor
      · rintro rfl; exact ⟨clk, .inr rfl⟩
      · rintro ⟨n, hy | hy⟩
        · exact absurd hy (hn y n)
        · cases hy; rfl
    · simp only [if_neg hj, h4]
      constructor
      · rintro ⟨n, hy⟩; exact ⟨n, .inl hy⟩
      · rintro ⟨n, hy | hy⟩
        · exact ⟨n, hy⟩
        · cases hy; exact absurd rfl hj
theorem KM.set {l : List (K × Value × Nat)} {clk : Nat} {m : K → Option Value} {k : K} {x y : Value} {j n : Nat} (hG : ∀ e ∈ l, G e.1) (h1 : (l.map (·.1)).Nodup) (h2 : (l.map (·.2.2)).Nodup) (h3 : ∀ e ∈ l, e.2.2 < clk) (h4 : ∀ k x, m k = some x ↔ ∃ n, (k, x, n) ∈ l)
    (hj : l[j]? = some (k, y, n)) : KM kv G ((l.map (mkE kv)).toArray.modify j fun e => { e with key := kv k, val := x }) clk (updK m k x) := by
  have hlt : j < l.length := (List.getElem?_eq_some_iff.1 hj).1
  have hget : l[j] = (k, y, n) := (List.getElem?_eq_some_iff.1 hj).2
  have hk1 : (l.set j (k, x, n)).map (·.1) = l.map (·.1) := by
    rw [List.map_set]
    apply List.ext_getElem (by simp)
    intro i h5 h6
    rw [List.getElem_set]
    split
    · rename_i h; subst h; simp [hget]
    · rfl
  have hk2 : (l.set j (k, x, n)).map (·.2.2) = l.map (·.2.2) := by
    rw [List.map_set]
    apply List.ext_getElem (by simp)
    intro i h5 h6
    rw [List.getElem_set]
    split
    · rename_i h; subst h; simp [hget]
    · rfl
  have hmem : ∀ e, e ∈ l.set j (k, x, n) → e = (k, x, n) ∨ (e ∈ l ∧ e.1 ≠ k) := fun e he => by
    obtain ⟨i, hi, rfl⟩ := List.mem_iff_getElem.1 he
    rw [List.getElem_set]
    split
    · exact .inl rfl
    · rename_i hne
      have hi' : i < l.length := by simpa using hi
      refine .inr ⟨List.getElem_mem hi', fun h => ?_⟩
      have hnd := List.pairwise_iff_getElem.1 h1
      have e1 : (l.map (·.1))[i]'(by simpa using hi') = (l.map (·.1))[j]'(by simpa using hlt) := by simp [hget, h]
      rcases Nat.lt_trichotomy i j with h5 | h5 | h5
      · exact hnd i j _ _ h5 e1
      · exact hne h5.symm
      · exact hnd j i _ _ h5 e1.symm
  refine ⟨l.set j (k, x, n), ?_, ?_, by rw [hk1]; exact h1, by rw [hk2]; exact h2, ?_, ?_⟩
  · apply Array.ext'
    rw [Array.toList_modify, modify_eq_set _ _ _ (mkE kv (k, y, n)) (by simp [hj]), List.map_set]
    simp [mkE]
  · intro e he
    rcases hmem e he with rfl | he
    · exact hG (k, y, n) (hget ▸ List.getElem_mem hlt)
    · exact hG e he.1
  · intro e he
    rcases hmem e he with rfl | he
    · exact h3 (k, y, n) (hget ▸ List.getElem_mem hlt)
    · exact h3 e he.1
  · intro i z
    unfold updK
    by_cases hik : i = k
    · subst hik
      rw [if_pos rfl]
      constructor
      · intro h; cases h; exact ⟨n, List.mem_iff_getElem.2 ⟨j, by simpa using hlt, by simp⟩⟩
      · rintro ⟨n', h⟩
        rcases hmem _ h with h | h
        · cases h; rfl
        · exact absurd rfl h.2
    · rw [if_neg hik, h4]
      constructor
      · rintro ⟨n', h⟩
        obtain ⟨q, hq, he⟩ := List.mem_iff_getElem.1 h
        refine ⟨n', List.mem_iff_getElem.2 ⟨q, by simpa using hq, ?_⟩⟩
        rw [List.getElem_set, if_neg, he]
        intro h5
        subst h5
        rw [hget] at he
        cases he
        exact hik rfl
      · rintro ⟨n', h⟩
        rcases hmem _ h with h | h
        · cases h; exact absurd rfl hik
        · exact ⟨n', h.1⟩
variable {P : Program} {t kt et : TypeId} {b clk : Nat} {es : Array MapEntry} {m : K → Option Value} {w : World}
theorem KM.find (Q : KeyOK kv G P kt) (h : KM kv G es clk m) {k : K} (hk : G k) (w : World) :
    ((Instr.findKey kt (kv k) es.toList).run P w = .ok none w ∧ m k = none ∧ ∀ e ∈ es.toList, e.key ≠ kv k) ∨ ∃ j e, (Instr.findKey kt (kv k) es.toList).run P w = .ok (some (j, e.val)) w ∧ es.toList[j]? = some e ∧ e.key = kv k ∧ m k = some e.val := by
  obtain ⟨l, rfl, hG, h1, h2, h3, h4⟩ := h
  obtain ⟨lk, hlk⟩ := Q.good k hk
  rcases Q.law.find w hlk (l.map (mkE kv)) (fun e he => by
    obtain ⟨e', he', rfl⟩ := List.mem_map.1 he
    exact Q.good _ (hG e' he')) with ⟨f1, f2⟩ | ⟨j, e, f1, f2, f3⟩
  · refine .inl ⟨f1, ?_, f2⟩
    cases hm : m k with
    | none => rfl
    | some x =>
      obtain ⟨n, hn⟩ := (h4 k x).1 hm
      exact absurd rfl (f2 (mkE kv (k, x, n)) (List.mem_map.2 ⟨_, hn, rfl⟩))
  · refine .inr ⟨j, e, f1, f2, f3, ?_⟩
    rw [List.getElem?_map] at f2
    obtain ⟨e', he', rfl⟩ := Option.map_eq_some_iff.1 f2
    obtain ⟨k', x, n⟩ := e'
    obtain rfl := Q.inj _ _ f3
    exact (h4 k' x).2 ⟨n, List.mem_of_getElem? he'⟩
theorem KM.lookup (Q : KeyOK kv G P kt) (ht : P.underlying t = some (.map kt et)) {z : Value} (hz : (zeroValue et).run P w = .ok z w) (hb : w.heap[b]? = some (.map es clk)) (h : KM kv G es clk m) {k : K} (hk : G k) (ok : Bool) :
    (Instr.lookup t (.map (some b)) (kv k) ok).run P w = .ok (if ok then .tuple #[(m k).getD z, .bool (m k).isSome] else (m k).getD z) w := by
  obtain ⟨lk, hlk⟩ := Q.good k hk
  rcases h.find Q hk w with ⟨f1, f2, _⟩ | ⟨j, e, f1, _, _, f2⟩
  · cases ok <;> simp [Instr.lookup, run_underlying ht, MapKept.run_getObj_map hb, Q.law.check w _ hlk, f1, f2, hz, Result.andThen]
  · cases ok <;> simp [Instr.lookup, run_underlying ht, MapKept.run_getObj_map hb, Q.law.check w _ hlk, f1, f2, Result.andThen]
end
end Go.SX
namespace Go.SX
open Go Go.MapKept Go.ChangeMaps Go.WideShapes Go.ChangeShapes Go.WideMaps
theorem post_skipG {P : Program} {Q : Exit → Act → World → Prop} {all : Array Oper} {o : Oper} {l : List Oper} {k : List W} {a : Act} {w w' : World} (hw : Region.wanted o (yielded all a.tmps) = true) (he : (execOp a.eval o).run P w = .ok .skip w')
    (hk : post P Q (.ops all l :: k) .normal (a.put o.dst undef) w') : post P Q (.ops all (o :: l) :: k) .normal a w := by
  show wpList P all (post P Q k) (o :: l) a w
  unfold wpList
  rw [if_pos hw]
  refine .inl ?_
  simp only [Oper.wp, he, Oper.upon]
  exact hk
end Go.SX
