/- copy, of rows, in a walk. Holds for every program. -/
import Derived.Test.YtnmjdelnllchdaaSxO
import Derived.Lib.Overlaps
namespace Go.SX
set_option linter.unusedVariables false
set_option linter.unusedSimpArgs false
set_option linter.unusedSectionVars false
open Go Go.RowKit

/-- Rows with others laid over them. -/
def copyRow (row row2 : Nat → List SV) (dB base2 n : Nat) : Nat → List SV := fun q => if q < dB then row q else if q < dB + n then row2 (base2 + (q - dB)) else row q

theorem run_copy {P : Program} {w : World} {t t' e ty : TypeId} {te : TI} {b dB dn dcap N u : Nat} {c : Array Value} {row : Nat → List SV} {b2 o2 base2 sn scap N2 u2 : Nat} {fz2 : Nat × Nat} {c2 : Array Value} {row2 : Nat → List SV}
    (ht : P.underlying t = some (.slice e)) (hte : te.ok P e) (hb : w.heap[b]? = some (.cells c u (0, 0))) (hr : ArrRep c 0 N row te.sz) (hb2 : w.heap[b2]? = some (.cells c2 u2 fz2)) (hr2 : ArrRep c2 o2 N2 row2 te.sz)
    (hn : dB + min sn dn ≤ N) (hn2 : base2 + min sn dn ≤ N2) (hna : ∀ j, j < min sn dn → ∀ x ∈ row2 (base2 + j), NotAgg (den x)) :
    (Builtin.copy_ #[t, t'] ty #[.slice (some ⟨b, dB * te.sz, none⟩) dn dcap, .slice (some ⟨b2, o2 + base2 * te.sz, none⟩) sn scap]).run P w = .ok (.int .i64 ((min sn dn : Nat) : Int)) (putBlk w b (.cells (putAll c (dB * te.sz) (rowsOf row2 base2 (min sn dn))) u (0, 0))) := by
  have hlen : ∀ j, j < min sn dn → (row2 (base2 + j)).length = te.sz := fun j hj => (hr2.2 (base2 + j) (by omega)).1
  have hld := run_loadRows (P := P) hb2 hr2 hn2
  have hst := run_storeCells (P := P) (rowsOf row2 base2 (min sn dn)) w c (dB * te.sz) 0 hb (by
    rw [rowsOf_length hlen, Nat.add_zero, ← Nat.add_mul]
    have h1 := hr.1
    have h2 : (dB + min sn dn) * te.sz ≤ N * te.sz := Nat.mul_le_mul_right _ hn
    omega) (fun v hv => by
    obtain ⟨j, hj, x, hx, rfl⟩ := mem_rowsOf hv
    exact hna j hj x hx)
  simp only [Builtin.copy_, Builtin.lenOf, Builtin.firstCells, Sem.run_bind, run_underlying ht, Result.andThen_ok, run_sizeOf' hte, List.getElem?_toArray, List.getElem?_cons_zero, List.getElem?_cons_succ, Sem.run_pure]
  rw [show Nat.min sn dn = min sn dn from rfl, hld]
  simp only [Result.andThen_ok, hst, Nat.add_zero, goInt]

/-- copy in a walk: the world behind it. -/
theorem RepX.copy {P : Program} {C : Cfg} (htt : TTok P C.tt) {F : Fr} {st : St} {o : Oper} {a : Act} {w : World} (hr : RepX F st a w) {args : Array Operand} {t t' : TypeId}
    (hop : o.op = .call { callee := .builtin .copy, args := args, argTypes := #[t, t'] }) {i b dB dn dcap sz N u j b2 o2 base2 sn scap N2 u2 : Nat} {m2 : Bool} {fz2 : Nat × Nat} {row row2 : Nat → List SV} (h : opds st 0 args.toList = some [.sl i b 0 dB dn dcap sz, .sl j b2 o2 base2 sn scap sz])
    {e : TypeId} {ti te : TI} (ht : lookT C.tt t = some ti) (hd1 : ti.d = .slice e) (hte : lookT C.tt e = some te) (hsz : te.sz = sz) (hi : st.hp[i]? = some (b, true, .arr 0 N row sz u (0, 0))) (hj : st.hp[j]? = some (b2, m2, .arr o2 N2 row2 sz u2 fz2))
    (hn : dB + min sn dn ≤ N) (hn2 : base2 + min sn dn ≤ N2) (hna : ∀ q, q < min sn dn → ∀ x ∈ row2 (base2 + q), NotAgg (den x)) :
    ∃ w', (execOp a.eval o).run P w = .ok (.value (.int .i64 ((min sn dn : Nat) : Int))) w' ∧ RepX F { st with hp := st.hp.set i (b, true, .arr 0 N (copyRow row row2 dB base2 (min sn dn)) sz u (0, 0)) } a w' := by
  subst hsz
  obtain ⟨c, hb, hr1⟩ := hr.hp i b true _ hi
  obtain ⟨c2, hb2, hr2⟩ := hr.hp j b2 m2 _ hj
  have hrun := run_copy (P := P) (w := w) (t' := t') (ty := o.type) (dcap := dcap) (scap := scap) ((htt _ _ ht).slice hd1) (htt _ _ hte) hb hr1 hb2 hr2 hn hn2 hna
  have e1 := exec_builtin (P := P) (w := w) (hr.env.same (st' := st) rfl rfl rfl rfl) (c := 0) rfl hop h
  simp only [builtin, denL, den, Nat.zero_add, Sem.run_bind] at e1
  rw [hrun] at e1
  simp only [Result.andThen_ok, Sem.run_pure] at e1
  have hm := hr.mem.store hi (new := .arr 0 N (copyRow row row2 dB base2 (min sn dn)) te.sz u (0, 0)) (o := .cells (putAll c (dB * te.sz) (rowsOf row2 base2 (min sn dn))) u (0, 0)) ⟨_, putBlk_same (lt_of_heap hb), hr1.of_room hn fun q hq => (hr2.2 (base2 + q) (by omega)).1⟩
  refine ⟨_, e1, Rep.of_mem (hr.env.same rfl rfl rfl rfl) ?_⟩
  refine ⟨hm.hp, hm.mu, hm.nd, ?_, hm.kp⟩
  simp [putBlk_size]

section
variable {α : Type} {enc : α → List SV} {sz : Nat} {d : α} {Pb : Nat → Prop}

set_option linter.unusedSimpArgs false in
set_option maxRecDepth 100000 in
theorem app_make_new {P : Program} {w : World} {t t' e ty : TypeId} {k : IntKind} {te : TI} {V : Value} {L : List α} {n : Nat} (ht : P.underlying t = some (.slice e)) (ht' : P.underlying t' = some (.int k)) (hte : te.ok P e)
    (hz : te.zero.cells.size = sz) (hsz : te.sz = sz) (hs0 : 0 < sz) (hd : enc d = cellsV' te.zero.cells) (hby : te.by_ ≠ 0) (hfl : ∀ c ∈ enc d, NotAgg (den c)) (hn : 0 < n) (hbig : (2 * (L.length + n) + 192) * te.by_ ≤ 281474976710656) (hlim : n ≤ 281474976710656)
    (hV : RdS enc sz d Pb w V L) {ad0 : Option Addr} {cap0 : Nat} (hv0 : V = .slice ad0 L.length cap0) (hno : cap0 < L.length + n) :
    ∃ V' w', (Builtin.append_ #[t, t'] ty #[V, .int .i64 n]).run P w = .ok V' w' ∧ OwS enc sz d (fun x => w.heap.size ≤ x) w' V' (L ++ List.replicate n d) ∧ KeepsTo w [] w' := by
  subst hsz
  obtain ⟨xi, hi1, hi2, hi3, hi4⟩ := hte.info
  have hinfo : ∀ w, (typeInfo e).run P w = .ok xi w := fun w => by simp [typeInfo, hi1]
  have hwr : IntKind.i64.wrap (n : Int) = n := wrap_inK (by unfold inK; omega)
  have hnb : n * te.by_ ≤ 281474976710656 := Nat.le_trans (Nat.mul_le_mul_right _ (by omega)) hbig
  have hnb' : ¬ ((n : Int) * (xi.bytes : Int) > 2 ^ 48) := by
    rw [hi3]
    intro h8
    have h9 : ((n * te.by_ : Nat) : Int) = (n : Int) * (te.by_ : Int) := Int.natCast_mul n te.by_
    rw [← h9] at h8
    omega
  have hzn : ¬ n * te.sz = 0 := by
    have := Nat.mul_pos hn hs0
    omega
  have hroomR : ∀ q (w : World), (askRoom q).run P w = .ok () w := fun q w => by
    unfold askRoom
    split
    · simp [mark, Sem.run]
    · rfl
  have hzr : ∀ j, j < n → ((fun _ : Nat => cellsV' te.zero.cells) (0 + j)).length = te.sz := fun j _ => by simp [cellsV', hz]
  have hgrow : ∀ (row : Nat → List SV) (ad : Option Addr) (cap : Nat), V = .slice ad L.length cap → (∀ j, j < L.length → (row (0 + j)).length = te.sz) → (∀ j, j < L.length → row j = enc (nth d L j)) →
      (Builtin.firstCells te.sz L.length V).run P { w with drawn := w.drawn + 1 } = .ok (rowsOf row 0 L.length).toArray { w with drawn := w.drawn + 1 } → cap < L.length + n →
      ∃ V' w', (Builtin.append_ #[t, t'] ty #[V, .int .i64 n]).run P w = .ok V' w' ∧ OwS enc te.sz d (fun x => w.heap.size ≤ x) w' V' (L ++ List.replicate n d) ∧ KeepsTo w [] w' := by
    intro row ad cap hdx hrl hrow hold hroom
    subst hdx
    have hnr : ¬ L.length + n ≤ cap := by omega
    have hcapb : ¬ Builtin.nextslicecap (L.length + n) cap * xi.bytes > 2 ^ 48 := by
      have h1 := nextslicecap_le hroom
      have h2 : Builtin.nextslicecap (L.length + n) cap * xi.bytes ≤ (2 * (L.length + n) + 192) * te.by_ := by rw [hi3]; exact Nat.mul_le_mul_right _ h1
      omega
    have hch : (choose (.appendCap (L.length + n) cap e)).run P w = .ok ((Question.appendCap (L.length + n) cap e).cut (w.tape w.drawn (.appendCap (L.length + n) cap e))) { w with drawn := w.drawn + 1 } := by
      first | rfl | simp only [choose, Sem.run, Question.forced]
    have hmax : IntKind.i64.max = 9223372036854775807 := by decide
    have hbig1 : ¬ (((L.length + n : Nat) : Int) > IntKind.i64.max) := by
      rw [hmax]
      have : (L.length + n) * 1 ≤ (2 * (L.length + n) + 192) * te.by_ := Nat.mul_le_mul (by omega) (by omega)
      omega
    obtain ⟨newCap, hnc, hncq⟩ : ∃ q, L.length + n ≤ q ∧ (Question.appendCap (L.length + n) cap e).cut (w.tape w.drawn (.appendCap (L.length + n) cap e)) = q := ⟨_, Nat.le_add_right _ _, rfl⟩
    rw [hncq] at hch
    have hrep := grown_rep (row := row) (row2 := fun _ => cellsV' te.zero.cells) (sz := te.sz) (len := L.length) (base2 := 0) (n := n) (cap := newCap) (z := te.zero.cells) hrl hzr hz hnc
    refine ⟨.slice (some ⟨w.heap.size, 0, none⟩) (L.length + n) newCap, ({ w with drawn := w.drawn + 1 } : World).alloc (.cells ((rowsOf row 0 L.length).toArray ++ (rowsOf (fun _ => cellsV' te.zero.cells) 0 n).toArray ++ Builtin.zeroCells te.zero.cells (newCap - (L.length + n))) e), ?_, .inr ⟨w.heap.size, newCap, newCap, e, _, Nat.le_refl _, by rw [List.length_append, List.length_replicate], by omega, by rw [List.length_append, List.length_replicate]; exact hnc, Nat.le_refl _, ⟨_, heap_alloc_new (w := { w with drawn := w.drawn + 1 }), hrep⟩, fun j hj => ?_⟩, ?_⟩
    · simp only [Builtin.append_, Sem.run_bind, run_underlying ht, Result.andThen_ok, run_sizeOf' hte, List.getElem?_toArray, List.getElem?_cons_zero, List.getElem?_cons_succ, run_underlying ht', Sem.run_pure, if_true, asInt, asIntOf, hwr, hinfo]
      rw [if_neg (by omega)]
      simp only [Sem.run_pure, Result.andThen_ok, Sem.run_bind, hinfo]
      rw [if_neg hnb']
      simp only [Sem.run_pure, Result.andThen_ok, Sem.run_bind, hinfo, Int.toNat_natCast, if_neg hnr]
      rw [if_neg (fun h => hbig1 h.1)]
      simp only [Sem.run_pure, Sem.run_bind, hinfo, Result.andThen_ok, if_neg hcapb, hch, hroomR, hold, Bool.not_true, Bool.false_eq_true, if_false, if_neg hzn, run_zeroValue' hte, newRow, newObj, Sem.run]
      rw [← zeroCells_rows]
      rfl
    · simp only [List.length_append, List.length_replicate] at hj
      rw [nth_rep]
      unfold appRow
      by_cases hj1 : j < L.length
      · rw [if_pos hj1, hrow j hj1]
      · rw [if_neg hj1, if_pos (by omega)]
        have e1 : nth d L j = d := by simp [nth, List.getD_eq_getElem?_getD, List.getElem?_eq_none (show L.length ≤ j by omega)]
        rw [e1, hd]
    · exact ⟨Nat.le_refl _, rfl, rfl, rfl, by show w.heap.size ≤ (w.heap.push _).size; simp, fun k hk _ => heap_alloc_lt (w := { w with drawn := w.drawn + 1 }) hk⟩
  rcases hV with ⟨rfl, ad, cp, rfl⟩ | ⟨h0, b, o0, cap, u, fz, _, rfl, ⟨c, hb, hr⟩, _⟩
  · cases hv0
    exact hgrow (fun _ => List.replicate te.sz (.v undef)) ad0 cap0 rfl (fun j hj => by simp at hj) (fun j hj => by simp at hj) (by cases ad0 <;> simp [Builtin.firstCells, rowsOf, loadCells, loadCellsFrom]) hno
  · cases hv0
    refine hgrow (fun j => enc (nth d L j)) (some ⟨b, o0, none⟩) cap0 rfl (fun j hj => (hr.2 _ (by omega)).1) (fun _ _ => rfl) ?_ hno
    have := run_loadRows (P := P) (w := { w with drawn := w.drawn + 1 }) hb hr (base := 0) (n := L.length) (by omega)
    simpa [Builtin.firstCells] using this

/-- append(s, make([]T, n)...) with no room, in a walk: a new block. -/
theorem post_appMakeN {P : Program} {C : Cfg} (htt : TTok P C.tt) {Qe : Exit → Act → World → Prop} {F : Fr} {st : St} {all : Array Oper} {o : Oper} {l : List Oper} {k : List W} {a : Act} {w : World} (hr : RepX F st a w) (hw : Region.wanted o (yielded all a.tmps) = true) {dd : Nat} (hdst : o.dst = some dd) (hdn : dd < st.nt) (hks : st.ks.all (fun r => r.tj != dd) = true)
    {x : SV} {n : Nat} {t t' : TypeId} (he : evApp st o.op = some (x, .v (.int .i64 n), t, t')) {e : TypeId} {kk : IntKind} {ti ti' te : TI} (ht : lookT C.tt t = some ti) (hd1 : ti.d = .slice e) (ht' : lookT C.tt t' = some ti') (hd2 : ti'.d = .int kk) (hte : lookT C.tt e = some te) (hz : te.zero.cells.size = sz) (hsz : te.sz = sz) (hs0 : 0 < sz) (hd : enc d = cellsV' te.zero.cells) (hby : te.by_ ≠ 0)
    {L : List α} (hfl : ∀ c ∈ enc d, NotAgg (den c)) (hn : 0 < n) (hbig : (2 * (L.length + n) + 192) * te.by_ ≤ 281474976710656) (hlim : n ≤ 281474976710656) (hV : RdS enc sz d Pb w (den x) L) {ad0 : Option Addr} {cap0 : Nat} (hv0 : den x = .slice ad0 L.length cap0) (hno : cap0 < L.length + n)
    (hk : ∀ V' a' w', OwS enc sz d (fun x => w.heap.size ≤ x) w' V' (L ++ List.replicate n d) → KeepsTo w [] w' → RepX F { st with env := (dd, 0, .v V') :: st.env } a' w' → post P Qe (.ops all l :: k) .normal a' w') : post P Qe (.ops all (o :: l) :: k) .normal a w := by
  obtain ⟨V', w', h1, h2, h4⟩ := app_make_new (ty := o.type) ((htt _ _ ht).slice hd1) ((htt _ _ ht').int hd2) (htt _ _ hte) hz hsz hs0 hd hby hfl hn hbig hlim hV hv0 hno
  refine post_appE hr hw hdst he h1 ?_
  exact hk V' _ w' h2 h4 (hr.retK h4 (by simp) dd (.v V') rfl st.hp (HpAll.to h4 hr.all (by simp)) hdn hks)
end

theorem frz_thaw (H : Hp) : frz (thaw H) = [] := by simp [frz, thaw]

/-- slices.overlaps of two blocks. -/
theorem exec_overlaps {P : Program} {st : St} {o : Oper} {g : FuncId} {fn : Func} {a : Act} {w : World} (hr : EnvRep st a) (hp : HpRep st.hp w) {i j b b' o1 o2 base1 base2 len1 cap1 len2 cap2 sz1 sz2 n1 n2 m1 u1 u2 q1 q2 : Nat} {mu1 mu2 : Bool} {row1 row2 : Nat → List SV}
    (h : evCall st 0 o.op = some (g, [.sl i b o1 base1 len1 cap1 sz1, .sl j b' o2 base2 len2 cap2 sz2])) (hf : P.funcs[g]? = some fn) (hname : (fn.name == "runtime.NumGoroutine") = false) (hb : fn.body.isNone = true) (hn : Extern.findNext fn = none)
    {tS tR e : TypeId} (he : Extern.find fn = some (Extern.SlicesOverlaps.overlaps #[tS, tS] #[tR])) {C : Cfg} (htt : TTok P C.tt) {ti te : TI} (ht : lookT C.tt tS = some ti) (hd : ti.d = .slice e) (hte : lookT C.tt e = some te)
    (hi : st.hp[i]? = some (b, mu1, .arr q1 n1 row1 sz1 u1 (0, 0))) (hj : st.hp[j]? = some (b', mu2, .arr q2 n2 row2 sz2 u2 (0, 0))) (hne : b ≠ b') (h0 : m1 < n2) (hs : 0 < sz2) : (execOp a.eval o).run P w = .ok (.value (.bool false)) w := by
  obtain ⟨c1, hb1, _⟩ := hp i b mu1 _ hi
  obtain ⟨c2, hb2, hr2⟩ := hp j b' mu2 _ hj
  have hc2 : c2.size ≠ 0 := by
    have h1 := hr2.1
    have h2 : 1 * 1 ≤ n2 * sz2 := Nat.mul_le_mul (by omega) (by omega)
    omega
  rw [exec_callFunc hr (c := 0) rfl h]
  simp only [denL, den]
  rw [run_callFunc_extern hf hname hb hn he, Go.Lib.run_overlaps_apart (P := P) w tS tR e ((htt _ _ ht).slice hd) te.sz (fun w => run_sizeOf' (htt _ _ hte) w) ⟨b, o1 + base1 * sz1, none⟩ ⟨b', o2 + base2 * sz2, none⟩ len1 cap1 len2 cap2 hne u1 u2 c1.size c2.size (by simp [World.shape?, hb1]) (by simp [World.shape?, hb2]) hc2 (by simp [World.frozen?, hb1]) (by simp [World.frozen?, hb1])]
  rfl

/-- copy in a walk. -/
theorem post_copy {P : Program} {C : Cfg} (htt : TTok P C.tt) {Q : Exit → Act → World → Prop} {F : Fr} {st : St} {all : Array Oper} {l : List Oper} {k : List W} {o : Oper} {a : Act} {w : World} (hr : RepX F st a w) (hw : o.guard = none) {dd : Nat} (hdst : o.dst = some dd) (hdn : dd < st.nt) (hks : st.ks.all (fun r => r.tj != dd) = true) {args : Array Operand} {t t' : TypeId}
    (hop : o.op = .call { callee := .builtin .copy, args := args, argTypes := #[t, t'] }) {i b dB dn dcap sz N u j b2 o2 base2 sn scap N2 u2 : Nat} {m2 : Bool} {fz2 : Nat × Nat} {row row2 : Nat → List SV} (h : opds st 0 args.toList = some [.sl i b 0 dB dn dcap sz, .sl j b2 o2 base2 sn scap sz])
    {e : TypeId} {ti te : TI} (ht : lookT C.tt t = some ti) (hd1 : ti.d = .slice e) (hte : lookT C.tt e = some te) (hsz : te.sz = sz) (hi : st.hp[i]? = some (b, true, .arr 0 N row sz u (0, 0))) (hj : st.hp[j]? = some (b2, m2, .arr o2 N2 row2 sz u2 fz2))
    (hn : dB + min sn dn ≤ N) (hn2 : base2 + min sn dn ≤ N2) (hna : ∀ q, q < min sn dn → ∀ x ∈ row2 (base2 + q), NotAgg (den x))
    (hk : ∀ a' w', RepX F { st with env := (dd, 0, .v (.int .i64 ((min sn dn : Nat) : Int))) :: st.env, hp := st.hp.set i (b, true, .arr 0 N (copyRow row row2 dB base2 (min sn dn)) sz u (0, 0)) } a' w' → post P Q (.ops all l :: k) .normal a' w') : post P Q (.ops all (o :: l) :: k) .normal a w := by
  obtain ⟨w', h1, h2⟩ := hr.copy (C := C) htt hop h ht hd1 hte hsz hi hj hn hn2 hna
  refine post_step hw h1 ?_
  rw [hdst]
  exact hk _ _ (h2.retK (KeepsTo.refl w' []) (by simp) dd (.v (.int .i64 ((min sn dn : Nat) : Int))) rfl _ h2.all hdn hks)

/-- copy at the end of a region that draws. -/
theorem post_copyD {P : Program} {C : Cfg} (htt : TTok P C.tt) {Q : Exit → Act → World → Prop} {F : Fr} {st : St} {all : Array Oper} {hp0 : Hp} {ix : Nat} {k : List W} {o : Oper} {a : Act} {w : World} (hr : RepX F st a w) (hix : all[ix]? = some o) (hf : frz hp0 = []) (hw : o.guard = none) {dd : Nat} (hdst : o.dst = some dd) (hdn : dd < st.nt) (hks : st.ks.all (fun r => r.tj != dd) = true) {args : Array Operand} {t t' : TypeId}
    (hop : o.op = .call { callee := .builtin .copy, args := args, argTypes := #[t, t'] }) {i b dB dn dcap sz N u j b2 o2 base2 sn scap N2 u2 : Nat} {m2 : Bool} {fz2 : Nat × Nat} {row row2 : Nat → List SV} (h : opds st 0 args.toList = some [.sl i b 0 dB dn dcap sz, .sl j b2 o2 base2 sn scap sz])
    {e : TypeId} {ti te : TI} (ht : lookT C.tt t = some ti) (hd1 : ti.d = .slice e) (hte : lookT C.tt e = some te) (hsz : te.sz = sz) (hi : st.hp[i]? = some (b, true, .arr 0 N row sz u (0, 0))) (hj : st.hp[j]? = some (b2, m2, .arr o2 N2 row2 sz u2 fz2))
    (hn : dB + min sn dn ≤ N) (hn2 : base2 + min sn dn ≤ N2) (hna : ∀ q, q < min sn dn → ∀ x ∈ row2 (base2 + q), NotAgg (den x))
    (hk : ∀ a' w', RepX F { st with env := (dd, 0, .v (.int .i64 ((min sn dn : Nat) : Int))) :: st.env, hp := st.hp.set i (b, true, .arr 0 N (copyRow row row2 dB base2 (min sn dn)) sz u (0, 0)) } a' w' → post P Q k .normal a' w') : post P Q (.opsD all hp0 [(ix, 3)] :: k) .normal a w := by
  obtain ⟨w', h1, h2⟩ := hr.copy (C := C) htt hop h ht hd1 hte hsz hi hj hn hn2 hna
  refine post_stepD3 hix (wanted_none hw) h1 (by rw [hf]; exact HpRep.nil) ?_
  rw [hdst]
  show wpSeqD P all (post P Q k) (HpRep hp0) (HpRep (frz hp0)) [] _ _
  unfold wpSeqD
  exact hk _ _ (h2.retK (KeepsTo.refl w' []) (by simp) dd (.v (.int .i64 ((min sn dn : Nat) : Int))) rfl _ h2.all hdn hks)
end Go.SX
