/- append of as many zero things (append(s, make([]T, n)...)), of slices as lists. Holds for every program. -/
import Derived.Test.YtnmjdelnllchdaaSxN
import Derived.Test.YtnmjdelnllchdaaSxH
namespace Go.SX
set_option linter.unusedVariables false
set_option linter.unusedSimpArgs false
set_option linter.unusedSectionVars false
open Go Go.RowKit

theorem zeroCells_rows (z : Array Value) (n : Nat) : Builtin.zeroCells z n = (rowsOf (fun _ => cellsV' z) 0 n).toArray := by
  have hl : (rowsOf (fun _ => cellsV' z) 0 n).length = n * z.size := rowsOf_length (fun j _ => by simp [cellsV'])
  apply Array.ext_getElem?
  intro i
  rcases Nat.lt_or_ge i (n * z.size) with h | h
  · have hs : 0 < z.size := by
      rcases Nat.eq_zero_or_pos z.size with h0 | h0
      · rw [h0] at h; simp at h
      · exact h0
    have h1 : i / z.size < n := Nat.div_lt_of_lt_mul (by rw [Nat.mul_comm]; exact h)
    have h2 := Nat.mod_lt i hs
    have h3 : i = i / z.size * z.size + i % z.size := by have := Nat.div_add_mod i z.size; rw [Nat.mul_comm] at this; omega
    have e := rowsOf_get (row := fun _ => cellsV' z) (sz := z.size) (n := n) (base := 0) (j := i / z.size) (s := i % z.size) (fun j _ => by simp [cellsV']) h1 h2
    rw [← h3] at e
    rw [zeroCells_get h]
    simp only [List.getElem?_toArray, e]
    simp [cellsV', denL_map_v]
  · rw [Array.getElem?_eq_none (by simp [Builtin.zeroCells]; exact h), List.getElem?_toArray, List.getElem?_eq_none (by omega)]

section
variable {α : Type} {enc : α → List SV} {sz : Nat} {d : α} {Pb : Nat → Prop}

theorem nth_rep {α : Type} {d : α} {L : List α} {n j : Nat} : nth d (L ++ List.replicate n d) j = nth d L j := by
  unfold nth
  simp only [List.getD_eq_getElem?_getD]
  rcases Nat.lt_or_ge j L.length with h | h
  · rw [List.getElem?_append_left h]
  · rw [List.getElem?_append_right h, List.getElem?_eq_none h, List.getElem?_replicate]
    split <;> rfl

set_option linter.unusedSimpArgs false in
set_option maxRecDepth 100000 in
theorem app_make {P : Program} {w : World} {t t' e ty : TypeId} {k : IntKind} {te : TI} {V : Value} {L : List α} {n : Nat} (hPb : ∀ x, w.heap.size ≤ x → Pb x) (ht : P.underlying t = some (.slice e)) (ht' : P.underlying t' = some (.int k)) (hte : te.ok P e)
    (hz : te.zero.cells.size = sz) (hsz : te.sz = sz) (hs0 : 0 < sz) (hd : enc d = cellsV' te.zero.cells) (hby : te.by_ ≠ 0) (hfl : ∀ c ∈ enc d, NotAgg (den c)) (hn : 0 < n) (hbig : (2 * (L.length + n) + 192) * te.by_ ≤ 281474976710656) (hlim : n ≤ 281474976710656)
    (hV : OwS enc sz d Pb w V L) :
    ∃ V' w' B, (Builtin.append_ #[t, t'] ty #[V, .int .i64 n]).run P w = .ok V' w' ∧ OwS enc sz d Pb w' V' (L ++ List.replicate n d) ∧ (∀ x ∈ B, Pb x ∧ x < w.heap.size) ∧ KeepsTo w B w' := by
  subst hsz
  obtain ⟨xi, hi1, hi2, hi3, hi4⟩ := hte.info
  have hinfo : ∀ w, (typeInfo e).run P w = .ok xi w := fun w => by simp [typeInfo, hi1]
  have hwr : IntKind.i64.wrap (n : Int) = n := wrap_inK (by unfold inK; omega)
  have hnb : n * te.by_ ≤ 281474976710656 := Nat.le_trans (Nat.mul_le_mul_right _ (by omega)) hbig
  have hnb' : ¬ ((n : Int) * (xi.bytes : Int) > 2 ^ 48) := by
    rw [hi3]
    intro h8
    have h9 : ((n * te.by_ : Nat) : Int) = (n : Int) * (te.by_ : Int) := Int.natCast_mul n te.by_
    rw [← h9] at h8
    omega
  have hzn : ¬ n * te.sz = 0 := by
    have := Nat.mul_pos hn hs0
    omega
  have hroomR : ∀ q (w : World), (askRoom q).run P w = .ok () w := fun q w => by
    unfold askRoom
    split
    · simp [mark, Sem.run]
    · rfl
  have hzr : ∀ j, j < n → ((fun _ : Nat => cellsV' te.zero.cells) (0 + j)).length = te.sz := fun j _ => by simp [cellsV', hz]
  have hgrow : ∀ (row : Nat → List SV) (ad : Option Addr) (cap : Nat), V = .slice ad L.length cap → (∀ j, j < L.length → (row (0 + j)).length = te.sz) → (∀ j, j < L.length → row j = enc (nth d L j)) →
      (Builtin.firstCells te.sz L.length V).run P { w with drawn := w.drawn + 1 } = .ok (rowsOf row 0 L.length).toArray { w with drawn := w.drawn + 1 } → cap < L.length + n →
      ∃ V' w' B, (Builtin.append_ #[t, t'] ty #[V, .int .i64 n]).run P w = .ok V' w' ∧ OwS enc te.sz d Pb w' V' (L ++ List.replicate n d) ∧ (∀ x ∈ B, Pb x ∧ x < w.heap.size) ∧ KeepsTo w B w' := by
    intro row ad cap hdx hrl hrow hold hroom
    subst hdx
    have hnr : ¬ L.length + n ≤ cap := by omega
    have hcapb : ¬ Builtin.nextslicecap (L.length + n) cap * xi.bytes > 2 ^ 48 := by
      have h1 := nextslicecap_le hroom
      have h2 : Builtin.nextslicecap (L.length + n) cap * xi.bytes ≤ (2 * (L.length + n) + 192) * te.by_ := by rw [hi3]; exact Nat.mul_le_mul_right _ h1
      omega
    have hch : (choose (.appendCap (L.length + n) cap e)).run P w = .ok ((Question.appendCap (L.length + n) cap e).cut (w.tape w.drawn (.appendCap (L.length + n) cap e))) { w with drawn := w.drawn + 1 } := by
      first | rfl | simp only [choose, Sem.run, Question.forced]
    have hmax : IntKind.i64.max = 9223372036854775807 := by decide
    have hbig1 : ¬ (((L.length + n : Nat) : Int) > IntKind.i64.max) := by
      rw [hmax]
      have : (L.length + n) * 1 ≤ (2 * (L.length + n) + 192) * te.by_ := Nat.mul_le_mul (by omega) (by omega)
      omega
    obtain ⟨newCap, hnc, hncq⟩ : ∃ q, L.length + n ≤ q ∧ (Question.appendCap (L.length + n) cap e).cut (w.tape w.drawn (.appendCap (L.length + n) cap e)) = q := ⟨_, Nat.le_add_right _ _, rfl⟩
    rw [hncq] at hch
    have hrep := grown_rep (row := row) (row2 := fun _ => cellsV' te.zero.cells) (sz := te.sz) (len := L.length) (base2 := 0) (n := n) (cap := newCap) (z := te.zero.cells) hrl hzr hz hnc
    refine ⟨.slice (some ⟨w.heap.size, 0, none⟩) (L.length + n) newCap, ({ w with drawn := w.drawn + 1 } : World).alloc (.cells ((rowsOf row 0 L.length).toArray ++ (rowsOf (fun _ => cellsV' te.zero.cells) 0 n).toArray ++ Builtin.zeroCells te.zero.cells (newCap - (L.length + n))) e), [], ?_, .inr ⟨w.heap.size, newCap, newCap, e, _, hPb _ (Nat.le_refl _), by rw [List.length_append, List.length_replicate], by omega, by rw [List.length_append, List.length_replicate]; exact hnc, Nat.le_refl _, ⟨_, heap_alloc_new (w := { w with drawn := w.drawn + 1 }), hrep⟩, fun j hj => ?_⟩, by simp, ?_⟩
    · simp only [Builtin.append_, Sem.run_bind, run_underlying ht, Result.andThen_ok, run_sizeOf' hte, List.getElem?_toArray, List.getElem?_cons_zero, List.getElem?_cons_succ, run_underlying ht', Sem.run_pure, if_true, asInt, asIntOf, hwr, hinfo]
      rw [if_neg (by omega)]
      simp only [Sem.run_pure, Result.andThen_ok, Sem.run_bind, hinfo]
      rw [if_neg hnb']
      simp only [Sem.run_pure, Result.andThen_ok, Sem.run_bind, hinfo, Int.toNat_natCast, if_neg hnr]
      rw [if_neg (fun h => hbig1 h.1)]
      simp only [Sem.run_pure, Sem.run_bind, hinfo, Result.andThen_ok, if_neg hcapb, hch, hroomR, hold, Bool.not_true, Bool.false_eq_true, if_false, if_neg hzn, run_zeroValue' hte, newRow, newObj, Sem.run]
      rw [← zeroCells_rows]
      rfl
    · simp only [List.length_append, List.length_replicate] at hj
      rw [nth_rep]
      unfold appRow
      by_cases hj1 : j < L.length
      · rw [if_pos hj1, hrow j hj1]
      · rw [if_neg hj1, if_pos (by omega)]
        have e1 : nth d L j = d := by simp [nth, List.getD_eq_getElem?_getD, List.getElem?_eq_none (show L.length ≤ j by omega)]
        rw [e1, hd]
    · exact ⟨Nat.le_refl _, rfl, rfl, rfl, by show w.heap.size ≤ (w.heap.push _).size; simp, fun k hk _ => heap_alloc_lt (w := { w with drawn := w.drawn + 1 }) hk⟩
  rcases hV with ⟨rfl, ad, rfl⟩ | ⟨b, N, cap, u, row, hPbb, rfl, hc0, hlen, hcap, hrep, hrow⟩
  · exact hgrow (fun _ => List.replicate te.sz (.v undef)) ad 0 rfl (fun j hj => by simp at hj) (fun j hj => by simp at hj) (by cases ad <;> simp [Builtin.firstCells, rowsOf, loadCells, loadCellsFrom]) (by simpa using hn)
  · have hrep' := hrep
    obtain ⟨c, hb, hr⟩ := hrep'
    by_cases hroom : L.length + n ≤ cap
    · have hst := run_storeCells (P := P) (rowsOf (fun _ => cellsV' te.zero.cells) 0 n) w c (L.length * te.sz) 0 hb (by
        rw [rowsOf_length hzr, Nat.add_zero, ← Nat.add_mul]
        have h1 := hr.1
        have h2 : (L.length + n) * te.sz ≤ N * te.sz := Nat.mul_le_mul_right _ (by omega)
        omega) (fun v hv => by
        obtain ⟨j, hj, x, hx, rfl⟩ := mem_rowsOf hv
        rw [← hd] at hx
        exact hfl x hx)
      have hor := hr.of_room (row2 := fun _ => cellsV' te.zero.cells) (base2 := 0) (n := n) (len := L.length) (by omega) hzr
      refine ⟨.slice (some ⟨b, 0, none⟩) (L.length + n) cap, _, [b], ?_, .inr ⟨b, N, cap, u, _, hPbb, by simp, hc0, by simpa using hroom, hcap, ⟨_, putBlk_same (lt_of_heap hb), hor⟩, fun j hj => ?_⟩, by simpa using ⟨hPbb, lt_of_heap hb⟩, putBlk_keeps⟩
      · simp only [Builtin.append_, Sem.run_bind, run_underlying ht, Result.andThen_ok, run_sizeOf' hte, List.getElem?_toArray, List.getElem?_cons_zero, List.getElem?_cons_succ, run_underlying ht', Sem.run_pure, if_true, asInt, asIntOf, hwr, hinfo]
        rw [if_neg (by omega)]
        simp only [Sem.run_pure, Result.andThen_ok, Sem.run_bind, hinfo]
        rw [if_neg hnb']
        simp only [Sem.run_pure, Result.andThen_ok, Sem.run_bind, hinfo, Int.toNat_natCast, if_pos hroom, Bool.not_true, Bool.false_eq_true, if_false, if_neg hzn, run_zeroValue' hte, add_none, Nat.zero_add]
        rw [zeroCells_rows, hst]
        simp
      · simp only [List.length_append, List.length_replicate] at hj
        rw [nth_rep]
        by_cases hj1 : j < L.length
        · simp only [hj1, if_true]
          exact hrow j hj1
        · simp only [hj1, if_false, hj, if_true]
          have e1 : nth d L j = d := by simp [nth, List.getD_eq_getElem?_getD, List.getElem?_eq_none (show L.length ≤ j by omega)]
          rw [e1, hd]
    · refine hgrow row (some ⟨b, 0, none⟩) cap rfl (fun j hj => (hr.2 _ (by omega)).1) hrow ?_ (by omega)
      have := run_loadRows (P := P) (w := { w with drawn := w.drawn + 1 }) hb hr (base := 0) (n := L.length) (by omega)
      simpa [Builtin.firstCells] using this

/-- append(s, make([]T, n)...) in a walk. -/
theorem post_appMake {P : Program} {C : Cfg} (htt : TTok P C.tt) {Qe : Exit → Act → World → Prop} {F : Fr} {st : St} {all : Array Oper} {o : Oper} {l : List Oper} {k : List W} {a : Act} {w : World} (hr : RepX F st a w) (hw : Region.wanted o (yielded all a.tmps) = true) {dd : Nat} (hdst : o.dst = some dd) (hdn : dd < st.nt) (hks : st.ks.all (fun r => r.tj != dd) = true)
    {x : SV} {n : Nat} {t t' : TypeId} (he : evApp st o.op = some (x, .v (.int .i64 n), t, t')) {e : TypeId} {kk : IntKind} {ti ti' te : TI} (ht : lookT C.tt t = some ti) (hd1 : ti.d = .slice e) (ht' : lookT C.tt t' = some ti') (hd2 : ti'.d = .int kk) (hte : lookT C.tt e = some te) (hz : te.zero.cells.size = sz) (hsz : te.sz = sz) (hs0 : 0 < sz) (hd : enc d = cellsV' te.zero.cells) (hby : te.by_ ≠ 0)
    {L : List α} (hfl : ∀ c ∈ enc d, NotAgg (den c)) (hn : 0 < n) (hbig : (2 * (L.length + n) + 192) * te.by_ ≤ 281474976710656) (hlim : n ≤ 281474976710656) (hPb : ∀ x, w.heap.size ≤ x → Pb x) (hV : OwS enc sz d Pb w (den x) L)
    (H : Hp) (hH : ∀ w' B, KeepsTo w B w' → (∀ x ∈ B, Pb x ∧ x < w.heap.size) → HpAll F w' H) (hF : ∀ x, Pb x → F.B ≤ x ∨ x ∈ F.M)
    (hk : ∀ V' a' w' B, OwS enc sz d Pb w' V' (L ++ List.replicate n d) → (∀ x ∈ B, Pb x ∧ x < w.heap.size) → KeepsTo w B w' → RepX F { st with env := (dd, 0, .v V') :: st.env, hp := H } a' w' → post P Qe (.ops all l :: k) .normal a' w') : post P Qe (.ops all (o :: l) :: k) .normal a w := by
  obtain ⟨V', w', B, h1, h2, h3, h4⟩ := app_make (ty := o.type) hPb ((htt _ _ ht).slice hd1) ((htt _ _ ht').int hd2) (htt _ _ hte) hz hsz hs0 hd hby hfl hn hbig hlim hV
  refine post_appE hr hw hdst he h1 ?_
  exact hk V' _ w' B h2 h3 h4 (hr.retK h4 (fun b hb => hF b (h3 b hb).1) dd (.v V') rfl H (hH w' B h4 h3) hdn hks)
end
/-! ### Where ways meet again -/
theorem wpList_monoQ {P : Program} {all : Array Oper} {Q Q' : Exit → Act → World → Prop} (h : ∀ e a w, Q e a w → Q' e a w) : ∀ (l : List Oper) (a : Act) (w : World), wpList P all Q l a w → wpList P all Q' l a w
  | [], a, w, hh => by
    unfold wpList at hh ⊢
    exact h _ _ _ hh
  | o :: l, a, w, hh => by
    unfold wpList at hh ⊢
    split
    · rename_i hw
      rw [if_pos hw] at hh
      rcases hh with hh | ⟨h1, h2⟩
      · exact .inl (upon_Q (fun c a w => h _ a w) (fun ⟨a, w, h3⟩ => ⟨a, w, h _ _ _ h3⟩) (Oper.wp_mono (fun a w => wpList_monoQ h l a w) hh))
      · obtain ⟨a', w', h3⟩ := h2
        exact .inr ⟨h1, a', w', h _ _ _ h3⟩
    · rename_i hw
      rw [if_neg hw] at hh
      exact wpList_monoQ h l _ _ hh

def noD : List W → Bool
  | [] => true
  | .code _ :: l => noD l
  | .ops _ _ :: l => noD l
  | .inBlock _ :: l => noD l
  | _ => false

theorem post_cutN {P : Program} {Q : Exit → Act → World → Prop} {I : Act → World → Prop} {k : List W} (h2 : ∀ a w, I a w → post P Q k .normal a w) : ∀ (l : List W) (e : Exit) (a : Act) (w : World), noD l = true → post P Q (l ++ .inv I :: k) e a w → post P Q (l ++ k) e a w
  | [], e, a, w, _, h => by
    cases e <;> first | exact h2 _ _ h | exact h
  | .code c :: l, e, a, w, hn, h => by
    have ih := fun e a w => post_cutN (Q := Q) h2 l e a w hn
    cases e <;> first | exact Code.wp_mono ih h | exact ih _ _ _ h
  | .ops all x :: l, e, a, w, hn, h => by
    have ih := fun e a w => post_cutN (Q := Q) h2 l e a w hn
    cases e <;> first | exact wpList_monoQ ih x a w h | exact ih _ _ _ h
  | .inBlock id :: l, e, a, w, hn, h => by
    have ih := fun e a w => post_cutN (Q := Q) h2 l e a w hn
    cases e with
    | exit id' =>
      simp only [List.cons_append, post] at h ⊢
      split at h
      · rename_i e1; rw [if_pos e1]; exact ih _ _ _ h
      · rename_i e1; rw [if_neg e1]; exact ih _ _ _ h
    | _ => exact ih _ _ _ h

/-- The first n items are run up to a place at which I holds; the rest goes on from there. -/
theorem post_cut {P : Program} {Q : Exit → Act → World → Prop} {K : List W} {a : Act} {w : World} (I : Act → World → Prop) (n : Nat) (hn : noD (K.take n) = true) (h1 : post P Q (K.take n ++ .inv I :: K.drop n) .normal a w) (h2 : ∀ a w, I a w → post P Q (K.drop n) .normal a w) : post P Q K .normal a w := by
  have := post_cutN (Q := Q) h2 (K.take n) .normal a w hn h1
  rwa [List.take_append_drop] at this
end Go.SX
