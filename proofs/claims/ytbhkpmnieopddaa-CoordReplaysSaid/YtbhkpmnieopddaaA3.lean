/- A3: texts of this proof, joined. -/
import Derived.Test.YtbhkpmnieopddaaA2
import Derived.Laws.StructEq
import Derived.ChangeKeysEq
set_option linter.unusedVariables false
set_option linter.unusedSimpArgs false
set_option linter.unusedSectionVars false
namespace Go.SX
open Go Go.RowKit
theorem RepX.cellResult {P : Program} {F : Fr} {st : St} {a : Act} {w : World} (hr : RepX F st a w) {t ty i b u : Nat} {m : Bool} {l : List SV} {ti : TI} (hl : lookD st.env t = some (.ptr i b 0)) (hi : st.hp[i]? = some (b, m, .cells l u)) (ht : ti.ok P ty) {x : SV}
    (hs : shapeUp ti.d.isAgg ti.sz l = some x) : (asAddr (a.tmps[t]?.getD undef)).run P w = .ok ⟨b, 0, none⟩ w ∧ (loadVar ty ⟨b, 0, none⟩).run P w = .ok (den x) w := by
  have h0 := hr.slot hl
  simp only [Array.getD_eq_getD_getElem?] at h0
  rw [h0]
  have hb : w.heap[b]? = some (.cells (denL l).toArray u (0, 0)) := hr.hp i b m _ hi
  have h1 : (loadVar ty ⟨b, 0, none⟩).run P w = .ok (den x) w := run_loadVar ht hs fun j hj => by
    simp [World.cell?, hb]
  exact ⟨by simp [den, asAddr], h1⟩
theorem endC1 {P : Program} {fn : Func} {R : Ending → World → Prop} {F : Fr} {st : St} {a : Act} {w : World} (hr : RepX F st a w) {t ty : Nat} (hres : fn.results = #[.cell t ty]) {i b u : Nat} {m : Bool} {l : List SV} {ti : TI} (hl : lookD st.env t = some (.ptr i b 0)) (hi : st.hp[i]? = some (b, m, .cells l u)) (ht : ti.ok P ty) {x : SV}
    (hs : shapeUp ti.d.isAgg ti.sz l = some x) (hR : R (.returned (den x)) w) : bodyPost P fn R .ret a w ∧ bodyPost P fn R .normal a w := by
  have h1 := hr.cellResult hl hi ht hs
  refine bodyPost_of hr.env.2.1 (v := den x) ?_ hR
  simp [results, hres, h1.1, h1.2]
theorem endC2 {P : Program} {fn : Func} {R : Ending → World → Prop} {F : Fr} {st : St} {a : Act} {w : World} (hr : RepX F st a w) {t ty v : Nat} (hres : fn.results = #[.cell t ty, .tmp v]) {i b u : Nat} {m : Bool} {l : List SV} {ti : TI} (hl : lookD st.env t = some (.ptr i b 0)) (hi : st.hp[i]? = some (b, m, .cells l u)) (ht : ti.ok P ty) {x y : SV}
    (hs : shapeUp ti.d.isAgg ti.sz l = some x) (hv : lookD st.env v = some y) (hR : R (.returned (.tuple #[den x, den y])) w) : bodyPost P fn R .ret a w ∧ bodyPost P fn R .normal a w := by
  have h1 := hr.cellResult hl hi ht hs
  have h2 := hr.slot hv
  refine bodyPost_of hr.env.2.1 (v := .tuple #[den x, den y]) ?_ hR
  simp only [Array.getD_eq_getD_getElem?] at h2
  simp [results, hres, h1.1, h1.2, h2]
theorem endC3 {P : Program} {fn : Func} {R : Ending → World → Prop} {F : Fr} {st : St} {a : Act} {w : World} (hr : RepX F st a w) {t ty t' ty' v : Nat} (hres : fn.results = #[.cell t ty, .cell t' ty', .tmp v]) {i b u i' b' u' : Nat} {m m' : Bool} {l l' : List SV} {ti ti' : TI} (hl : lookD st.env t = some (.ptr i b 0)) (hi : st.hp[i]? = some (b, m, .cells l u)) (ht : ti.ok P ty)
    (hl' : lookD st.env t' = some (.ptr i' b' 0)) (hi' : st.hp[i']? = some (b', m', .cells l' u')) (ht' : ti'.ok P ty') {x x' y : SV}
    (hs : shapeUp ti.d.isAgg ti.sz l = some x) (hs' : shapeUp ti'.d.isAgg ti'.sz l' = some x') (hv : lookD st.env v = some y) (hR : R (.returned (.tuple #[den x, den x', den y])) w) : bodyPost P fn R .ret a w ∧ bodyPost P fn R .normal a w := by
  have h1 := hr.cellResult hl hi ht hs
  have h1' := hr.cellResult hl' hi' ht' hs'
  have h2 := hr.slot hv
  refine bodyPost_of hr.env.2.1 (v := .tuple #[den x, den x', den y]) ?_ hR
  simp only [Array.getD_eq_getD_getElem?] at h2
  simp [results, hres, h1.1, h1.2, h1'.1, h1'.2, h2]
end Go.SX
namespace Go.SX
open Go Go.RowKit
theorem post_stepG {P : Program} {Q : Exit → Act → World → Prop} {all : Array Oper} {o : Oper} {l : List Oper} {k : List W} {a : Act} {w w' : World} {v : Value} (hw : Region.wanted o (yielded all a.tmps) = true) (he : (execOp a.eval o).run P w = .ok (.value v) w')
    (hk : post P Q (.ops all l :: k) .normal (a.put o.dst v) w') : post P Q (.ops all (o :: l) :: k) .normal a w := by
  show wpList P all (post P Q k) (o :: l) a w
  unfold wpList
  rw [if_pos hw]
  refine .inl ?_
  simp only [Oper.wp, he, Oper.upon]
  exact hk
structure Slots (R : World → World → Prop) (wR : World) (nt : Nat) (T : List (Nat × (Value → World → Prop))) (fix : List (Nat × Value)) (listed : Array Bool) (a : Act) (w : World) : Prop where
  size : a.tmps.size = nt
  defs : a.defers = []
  kp : R wR w
  live : ∀ e ∈ fix, a.tmps[e.1]? = some e.2
  sp : ∀ j d p, T[j]? = some (d, p) → listed.getD j false = true → ∃ x, a.tmps[d]? = some x ∧ p x w
theorem Slots.put {R : World → World → Prop} {wR : World} {nt : Nat} {T : List (Nat × (Value → World → Prop))} {fix : List (Nat × Value)} {listed : Array Bool} {a a' : Act} {w w' : World} (hI : Slots R wR nt T fix listed a w)
    (hTn : (T.map (·.1)).Nodup) (hTf : ∀ e ∈ fix, ∀ t ∈ T, e.1 ≠ t.1) (hTm : ∀ t ∈ T, ∀ (x : Value), t.2 x w → t.2 x w') (hR : R wR w')
    {i d : Nat} {p : Value → World → Prop} (hi : T[i]? = some (d, p)) {v x : Value} (ha : a'.tmps = (a.put (some d) v).tmps) (hd : a'.defers = []) (hx : a'.tmps[d]? = some x) (hp : p x w') :
    Slots R wR nt T fix (listed.setIfInBounds i true) a' w' := by
  have hput : ∀ t, t ≠ d → a'.tmps[t]? = a.tmps[t]? := by
    intro t ht
    rw [ha]
    simp only [Act.put]
    rw [Array.getElem?_setIfInBounds, if_neg (Ne.symm ht)]
  have hTd : ∀ j d' p', T[j]? = some (d', p') → j ≠ i → d' ≠ d := by
    intro j d' p' hj hji e
    subst e
    have h1 : (T.map (·.1))[j]? = some d' := by rw [List.getElem?_map, hj]; rfl
    have h2 : (T.map (·.1))[i]? = some d' := by rw [List.getElem?_map, hi]; rfl
    have hlt : j < (T.map (·.1)).length := (List.getElem?_eq_some_iff.1 h1).1
    exact hji ((List.getElem?_inj hlt hTn).1 (h1.trans h2.symm))
  refine ⟨?_, hd, hR, fun e he => ?_, fun j d' p' hj hl => ?_⟩
  · rw [ha]
    simp only [Act.put, Array.size_setIfInBounds]
    exact hI.size
  · rw [hput _ (hTf e he _ (List.mem_of_getElem? hi))]
    exact hI.live e he
  · by_cases hji : j = i
    · subst hji
      rw [hi] at hj
      cases hj
      exact ⟨x, hx, hp⟩
    · have hl' : listed.getD j false = true := by
        rwa [getD_set_ne false (Ne.symm hji)] at hl
      obtain ⟨y, h1, h2⟩ := hI.sp j d' p' hj hl'
      exact ⟨y, by rw [hput _ (hTd j d' p' hj hji)]; exact h1, hTm _ (List.mem_of_getElem? hj) _ h2⟩
end Go.SX
namespace Go.SX
open Go Go.RowKit
def eqPlain (d : TD) (x y : SV) : Option Bool :=
  match d, x, y with
  | .int _, .v (.int k a), .v (.int k' b) => if k = k' then some (a == b) else none
  | .bool, .v (.bool a), .v (.bool b) => some (a == b)
  | .str, .v (.string a), .v (.string b) => some (a.toList == b.toList)
  | _, _, _ => none
mutual
def evEqA (tt : List (Nat × TI)) (ok : Nat → Bool) : Nat → Nat → SV → SV → Option Bool
  | 0, _, _, _ => none
  | d + 1, t, x, y => match lookT tt t with
    | none => none
    | some ti => match ti.d, x, y with
      | .struct fs, .ag xs, .ag ys => if ok t then evEqF tt ok d fs xs ys else none
      | .arr n e, .ag xs, .ag ys => match lookT tt e with
        | some te => evEqI tt ok d e te.sz te.d.isAgg xs ys (List.range n)
        | none => none
      | d', x, y => eqPlain d' x y
  termination_by d => (d, 0)
def evEqF (tt : List (Nat × TI)) (ok : Nat → Bool) : Nat → List (Nat × Nat) → List SV → List SV → Option Bool
  | _, [], _, _ => some true
  | d, (off, t) :: fs, xs, ys => match lookT tt t with
    | none => none
    | some ti => match shapeUp ti.d.isAgg ti.sz ((xs.drop off).take ti.sz), shapeUp ti.d.isAgg ti.sz ((ys.drop off).take ti.sz) with
      | some a, some b => match evEqA tt ok d t a b, evEqF tt ok d fs xs ys with
        | some r, some r' => some (r && r')
        | _, _ => none
      | _, _ => none
  termination_by d fs => (d, fs.length + 1)
def evEqI (tt : List (Nat × TI)) (ok : Nat → Bool) : Nat → Nat → Nat → Bool → List SV → List SV → List Nat → Option Bool
  | _, _, _, _, _, _, [] => some true
  | d, e, sz, ag, xs, ys, i :: is => match shapeUp ag sz ((xs.drop (i * sz)).take sz), shapeUp ag sz ((ys.drop (i * sz)).take sz) with
      | some a, some b => match evEqA tt ok d e a b, evEqI tt ok d e sz ag xs ys is with
        | some r, some r' => some (r && r')
        | _, _ => none
      | _, _ => none
  termination_by d _ _ _ _ _ is => (d, is.length + 1)
end
def eqSide (P : Program) (t : Nat) : Bool := match P.underlying t with
  | some (.struct fs) => !P.stoodInHeld t && fs.toList.all fun f => f.name != "_"
  | _ => false
theorem eqPlain_in {P : Program} {t : TypeId} {ti : TI} (h : ti.ok P t) {x y : SV} {b : Bool} (he : eqPlain ti.d x y = some b) (w : World) (d : Nat) :
    (Op.equalIn (d + 1) t (den x) (den y)).run P w = .ok b w := by
  unfold eqPlain at he
  split at he
  · rename_i hd
    split at he
    · rename_i hk
      cases he
      subst hk
      exact run_equalIn_int w d t _ _ _ _ (h.int hd)
    · cases he
  · rename_i hd
    cases he
    exact run_equalIn_bool w d t _ _ (h.bool hd)
  · rename_i hd
    cases he
    exact run_equalIn_string w d t _ _ (h.str hd)
  · cases he
theorem cellsOf_eq {P : Program} {t : TypeId} {ti : TI} (h : ti.ok P t) : P.cellsOf t = ti.sz := by
  obtain ⟨x, hx, h1, _⟩ := h.info
  simp [Program.cellsOf, hx, h1]
mutual
theorem evEqA_sound {P : Program} {tt : List (Nat × TI)} (htt : TTok P tt) {ok : Nat → Bool} (hok : ∀ t, ok t = true → eqSide P t = true) : ∀ (d t : Nat) (x y : SV) (b : Bool), evEqA tt ok d t x y = some b → ∀ (w : World) (n : Nat), (Op.equalIn (n + d) t (den x) (den y)).run P w = .ok b w
  | 0, t, x, y, b, h => by simp [evEqA] at h
  | d + 1, t, x, y, b, h => by
    intro w n
    unfold evEqA at h
    split at h
    · cases h
    rename_i ti hti
    have ht := htt _ _ hti
    split at h
    · rename_i fs xs ys hd
      split at h
      · rename_i hokt
        have hs := hok _ hokt
        unfold eqSide at hs
        split at hs
        · rename_i fs' hu
          simp only [Bool.and_eq_true, Bool.not_eq_true', List.all_eq_true] at hs
          have hfs : P.fieldsOf t = fs' := by simp [Program.fieldsOf, hu]
          simp only [den]
          rw [show n + (d + 1) = (n + d) + 1 from rfl, run_equalIn_struct w (n + d) t _ _ (by rw [hfs]; exact hu) hs.1, hfs]
          have hfs2 : fs = fs'.toList.map fun f => (f.offset, f.type) := by
            obtain ⟨dd, e1, e2⟩ := ht.under
            rw [hu] at e1
            cases e1
            rw [hd] at e2
            simpa [toTD] using e2.symm
          subst hfs2
          exact evEqF_sound htt hok d fs'.toList xs ys b hs.2 h w n
        · cases hs
      · cases h
    · rename_i m e xs ys hd
      split at h
      · rename_i te hte
        have hte' := htt _ _ hte
        obtain ⟨i, hi, _⟩ := hte'.info
        simp only [den]
        rw [show n + (d + 1) = (n + d) + 1 from rfl, run_equalIn_array w (n + d) _ _ (ht.arr hd) hi, cellsOf_eq hte']
        exact evEqI_sound htt hok d e te hte (List.range m) xs ys b h w n
      · cases h
    · exact eqPlain_in ht h w (n + d)
  termination_by d => (d, 0)
theorem evEqF_sound {P : Program} {tt : List (Nat × TI)} (htt : TTok P tt) {ok : Nat → Bool} (hok : ∀ t, ok t = true → eqSide P t = true) : ∀ (d : Nat) (fs : List Field) (xs ys : List SV) (b : Bool), (∀ f ∈ fs, (f.name != "_") = true) → evEqF tt ok d (fs.map fun f => (f.offset, f.type)) xs ys = some b →
    ∀ (w : World) (n : Nat), (Op.eqFields (n + d) (denL xs).toArray (denL ys).toArray fs).run P w = .ok b w
  | d, [], xs, ys, b, _, h => by
    intro w n
    rw [List.map_nil, evEqF] at h
    cases h
    simp [Op.eqFields]
  | d, f :: fs, xs, ys, b, hn, h => by
    intro w n
    rw [List.map_cons, evEqF] at h
    split at h
    · cases h
    rename_i ti hti
    have ht := htt _ _ hti
    split at h
    · rename_i x' y' hx hy
      split at h
      · rename_i r r' hr hr'
        cases h
        have h1 := evEqA_sound htt hok d f.type x' y' r hr w n
        have h2 := evEqF_sound htt hok d fs xs ys r' (fun g hg => hn g (List.mem_cons_of_mem _ hg)) hr' w n
        have h0 : f.name ≠ "_" := by simpa using hn f (by simp)
        simp only [Op.eqFields, if_pos h0, Sem.run_bind, shapeUp_part ht hx, shapeUp_part ht hy, Result.andThen_ok, h1]
        cases r
        · simp
        · simpa using h2
      · cases h
    · cases h
  termination_by d fs => (d, fs.length + 1)
theorem evEqI_sound {P : Program} {tt : List (Nat × TI)} (htt : TTok P tt) {ok : Nat → Bool} (hok : ∀ t, ok t = true → eqSide P t = true) : ∀ (d : Nat) (e : Nat) (te : TI), lookT tt e = some te → ∀ (is : List Nat) (xs ys : List SV) (b : Bool), evEqI tt ok d e te.sz te.d.isAgg xs ys is = some b →
    ∀ (w : World) (n : Nat), (Op.eqItems (n + d) e te.sz (denL xs).toArray (denL ys).toArray is).run P w = .ok b w
  | d, e, te, _, [], xs, ys, b, h => by
    intro w n
    rw [evEqI] at h
    cases h
    simp [Op.eqItems]
  | d, e, te, hte, i :: is, xs, ys, b, h => by
    intro w n
    rw [evEqI] at h
    have ht := htt _ _ hte
    split at h
    · rename_i x' y' hx hy
      split at h
      · rename_i r r' hr hr'
        cases h
        have h1 := evEqA_sound htt hok d e x' y' r hr w n
        have h2 := evEqI_sound htt hok d e te hte is xs ys r' hr' w n
        simp only [Op.eqItems, Sem.run_bind, shapeUp_part ht hx, shapeUp_part ht hy, Result.andThen_ok, h1]
        cases r
        · simp
        · simpa using h2
      · cases h
    · cases h
  termination_by d _ _ _ is => (d, is.length + 1)
end
theorem RepX.top {F : Fr} {st : St} {a : Act} {w : World} (h : RepX F st a w) (t : Nat) (x' : SV) {x : SV} (hl : lookD st.env t = some x) (hd : den x' = den x) : RepX F { st with env := (t, 0, x') :: st.env } a w := by
  unfold lookD at hl
  split at hl
  · rename_i y hy
    cases hl
    obtain ⟨h1, h2, h3, h4⟩ := h.env
    refine Rep.of_mem ⟨h1, h2, fun u c z hz => ?_, h4⟩ h.mem
    simp only [look] at hz
    split at hz
    · rename_i e
      cases hz
      have e' : t = u := by simpa using e
      subst e'
      have := h3 t 0 _ hy
      simp only [cnd, if_true] at this ⊢
      exact ⟨this.1, by rw [this.2, hd]⟩
    · exact h3 u c z hz
  · cases hl
theorem RepX.see {F : Fr} {st : St} {a : Act} {w : World} (h : RepX F st a w) (H : Hp) (hH : HpAll F w H) : RepX F { st with hp := H } a w := h.memK (KeepsTo.refl w []) (by simp) H hH
theorem HpAll.one {F : Fr} {w : World} {b : Nat} {o : SO} (h : o.rep w b) : HpAll F w [(b, false, o)] := ⟨⟨h, by simp, by simp⟩, trivial⟩
theorem run_append_zero {P : Program} {w : World} {t t' e e' ty : TypeId} {te : TI} {base a : Option Addr} {len cap cap2 : Nat} (ht : P.underlying t = some (.slice e)) (ht' : P.underlying t' = some (.slice e')) (h : te.ok P e) (hl : len ≤ cap) :
    (Builtin.append_ #[t, t'] ty #[.slice base len cap, .slice a 0 cap2]).run P w = .ok (.slice base len cap) w := by
  have h1 : (Builtin.lenOf (.slice a 0 cap2)).run P w = .ok 0 w := by simp [Builtin.lenOf]
  have h2 : (Builtin.firstCells te.sz 0 (.slice a 0 cap2)).run P w = .ok #[] w := by
    cases a <;> simp [Builtin.firstCells, loadCells, loadCellsFrom]
  cases base <;> simp [Builtin.append_, run_underlying ht, run_sizeOf' h, run_underlying ht', h1, h2, hl, storeCells]
theorem post_append0 {P : Program} {C : Cfg} (htt : TTok P C.tt) {Q : Exit → Act → World → Prop} {F : Fr} {st : St} {all : Array Oper} {o : Oper} {l : List Oper} {k : List W} {a : Act} {w : World} (hr : RepX F st a w) (hw : Region.wanted o (yielded all a.tmps) = true) {d : Nat} (hdst : o.dst = some d) (hdn : d < st.nt) (hks : st.ks.all (fun r => r.tj != d) = true)
    {x y : SV} {t t' : TypeId} (he : evApp st o.op = some (x, y, t, t')) {e e' : TypeId} {ti ti' te : TI} (ht : lookT C.tt t = some ti) (hd1 : ti.d = .slice e) (ht' : lookT C.tt t' = some ti') (hd2 : ti'.d = .slice e') (hte : lookT C.tt e = some te)
    {base ad : Option Addr} {len cap cap2 : Nat} (hx : den x = .slice base len cap) (hy : den y = .slice ad 0 cap2) (hl : len ≤ cap)
    (hk : ∀ a', RepX F { st with env := (d, 0, x) :: st.env } a' w → post P Q (.ops all l :: k) .normal a' w) : post P Q (.ops all (o :: l) :: k) .normal a w := by
  have e1 := evApp_sound (P := P) (hr.env.same (st' := st) rfl rfl rfl rfl) he w
  rw [hx, hy, run_append_zero ((htt _ _ ht).slice hd1) ((htt _ _ ht').slice hd2) (htt _ _ hte) hl] at e1
  simp only [Result.andThen_ok] at e1
  show wpList P all (post P Q k) (o :: l) a w
  unfold wpList
  rw [if_pos hw]
  refine .inl ?_
  simp only [Oper.wp, e1, Oper.upon, hdst]
  exact hk _ (hr.retK (KeepsTo.refl w []) (by simp) d x hx.symm st.hp hr.all hdn hks)
theorem post_appE {P : Program} {Q : Exit → Act → World → Prop} {F : Fr} {st : St} {all : Array Oper} {o : Oper} {l : List Oper} {k : List W} {a : Act} {w w' : World} (hr : RepX F st a w) (hw : Region.wanted o (yielded all a.tmps) = true) {d : Nat} (hdst : o.dst = some d)
    {x y : SV} {t t' : TypeId} (he : evApp st o.op = some (x, y, t, t')) {V : Value} (hrun : (Builtin.append_ #[t, t'] o.type #[den x, den y]).run P w = .ok V w') (hk : post P Q (.ops all l :: k) .normal (a.put (some d) V) w') : post P Q (.ops all (o :: l) :: k) .normal a w := by
  have e1 := evApp_sound (P := P) (hr.env.same (st' := st) rfl rfl rfl rfl) he w
  rw [hrun] at e1
  simp only [Result.andThen_ok] at e1
  show wpList P all (post P Q k) (o :: l) a w
  unfold wpList
  rw [if_pos hw]
  refine .inl ?_
  simp only [Oper.wp, e1, Oper.upon, hdst]
  exact hk
end Go.SX

