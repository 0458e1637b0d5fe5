/-
  Equality of structs and of arrays. Holds for every program.
-/
import Derived.Test.YtnmjdelnllchdaaSxJ
import Derived.Laws.StructEq
import Derived.ChangeKeysEq
namespace Go.SX
set_option linter.unusedVariables false
set_option linter.unusedSimpArgs false
set_option linter.unusedSectionVars false
open Go Go.RowKit

/-- What a comparison of plain values says. -/
def eqPlain (d : TD) (x y : SV) : Option Bool :=
  match d, x, y with
  | .int _, .v (.int k a), .v (.int k' b) => if k = k' then some (a == b) else none
  | .bool, .v (.bool a), .v (.bool b) => some (a == b)
  | .str, .v (.string a), .v (.string b) => some (a.toList == b.toList)
  | _, _, _ => none

mutual
def evEqA (tt : List (Nat × TI)) (ok : Nat → Bool) : Nat → Nat → SV → SV → Option Bool
  | 0, _, _, _ => none
  | d + 1, t, x, y => match lookT tt t with
    | none => none
    | some ti => match ti.d, x, y with
      | .struct fs, .ag xs, .ag ys => if ok t then evEqF tt ok d fs xs ys else none
      | .arr n e, .ag xs, .ag ys => match lookT tt e with
        | some te => evEqI tt ok d e te.sz te.d.isAgg xs ys (List.range n)
        | none => none
      | d', x, y => eqPlain d' x y
  termination_by d => (d, 0)
def evEqF (tt : List (Nat × TI)) (ok : Nat → Bool) : Nat → List (Nat × Nat) → List SV → List SV → Option Bool
  | _, [], _, _ => some true
  | d, (off, t) :: fs, xs, ys => match lookT tt t with
    | none => none
    | some ti => match shapeUp ti.d.isAgg ti.sz ((xs.drop off).take ti.sz), shapeUp ti.d.isAgg ti.sz ((ys.drop off).take ti.sz) with
      | some a, some b => match evEqA tt ok d t a b, evEqF tt ok d fs xs ys with
        | some r, some r' => some (r && r')
        | _, _ => none
      | _, _ => none
  termination_by d fs => (d, fs.length + 1)
def evEqI (tt : List (Nat × TI)) (ok : Nat → Bool) : Nat → Nat → Nat → Bool → List SV → List SV → List Nat → Option Bool
  | _, _, _, _, _, _, [] => some true
  | d, e, sz, ag, xs, ys, i :: is => match shapeUp ag sz ((xs.drop (i * sz)).take sz), shapeUp ag sz ((ys.drop (i * sz)).take sz) with
      | some a, some b => match evEqA tt ok d e a b, evEqI tt ok d e sz ag xs ys is with
        | some r, some r' => some (r && r')
        | _, _ => none
      | _, _ => none
  termination_by d _ _ _ _ _ is => (d, is.length + 1)
end

/-- A struct's type of which == looks at each field. -/
def eqSide (P : Program) (t : Nat) : Bool := match P.underlying t with
  | some (.struct fs) => !P.stoodInHeld t && fs.toList.all fun f => f.name != "_"
  | _ => false

theorem eqPlain_in {P : Program} {t : TypeId} {ti : TI} (h : ti.ok P t) {x y : SV} {b : Bool} (he : eqPlain ti.d x y = some b) (w : World) (d : Nat) :
    (Op.equalIn (d + 1) t (den x) (den y)).run P w = .ok b w := by
  unfold eqPlain at he
  split at he
  · rename_i hd
    split at he
    · rename_i hk
      cases he
      subst hk
      exact run_equalIn_int w d t _ _ _ _ (h.int hd)
    · cases he
  · rename_i hd
    cases he
    exact run_equalIn_bool w d t _ _ (h.bool hd)
  · rename_i hd
    cases he
    exact run_equalIn_string w d t _ _ (h.str hd)
  · cases he

theorem cellsOf_eq {P : Program} {t : TypeId} {ti : TI} (h : ti.ok P t) : P.cellsOf t = ti.sz := by
  obtain ⟨x, hx, h1, _⟩ := h.info
  simp [Program.cellsOf, hx, h1]

mutual
theorem evEqA_sound {P : Program} {tt : List (Nat × TI)} (htt : TTok P tt) {ok : Nat → Bool} (hok : ∀ t, ok t = true → eqSide P t = true) : ∀ (d t : Nat) (x y : SV) (b : Bool), evEqA tt ok d t x y = some b → ∀ (w : World) (n : Nat), (Op.equalIn (n + d) t (den x) (den y)).run P w = .ok b w
  | 0, t, x, y, b, h => by simp [evEqA] at h
  | d + 1, t, x, y, b, h => by
    intro w n
    unfold evEqA at h
    split at h
    · cases h
    rename_i ti hti
    have ht := htt _ _ hti
    split at h
    · rename_i fs xs ys hd
      split at h
      · rename_i hokt
        have hs := hok _ hokt
        unfold eqSide at hs
        split at hs
        · rename_i fs' hu
          simp only [Bool.and_eq_true, Bool.not_eq_true', List.all_eq_true] at hs
          have hfs : P.fieldsOf t = fs' := by simp [Program.fieldsOf, hu]
          simp only [den]
          rw [show n + (d + 1) = (n + d) + 1 from rfl, run_equalIn_struct w (n + d) t _ _ (by rw [hfs]; exact hu) hs.1, hfs]
          have hfs2 : fs = fs'.toList.map fun f => (f.offset, f.type) := by
            obtain ⟨dd, e1, e2⟩ := ht.under
            rw [hu] at e1
            cases e1
            rw [hd] at e2
            simpa [toTD] using e2.symm
          subst hfs2
          exact evEqF_sound htt hok d fs'.toList xs ys b hs.2 h w n
        · cases hs
      · cases h
    · rename_i m e xs ys hd
      split at h
      · rename_i te hte
        have hte' := htt _ _ hte
        obtain ⟨i, hi, _⟩ := hte'.info
        simp only [den]
        rw [show n + (d + 1) = (n + d) + 1 from rfl, run_equalIn_array w (n + d) _ _ (ht.arr hd) hi, cellsOf_eq hte']
        exact evEqI_sound htt hok d e te hte (List.range m) xs ys b h w n
      · cases h
    · exact eqPlain_in ht h w (n + d)
  termination_by d => (d, 0)
theorem evEqF_sound {P : Program} {tt : List (Nat × TI)} (htt : TTok P tt) {ok : Nat → Bool} (hok : ∀ t, ok t = true → eqSide P t = true) : ∀ (d : Nat) (fs : List Field) (xs ys : List SV) (b : Bool), (∀ f ∈ fs, (f.name != "_") = true) → evEqF tt ok d (fs.map fun f => (f.offset, f.type)) xs ys = some b →
    ∀ (w : World) (n : Nat), (Op.eqFields (n + d) (denL xs).toArray (denL ys).toArray fs).run P w = .ok b w
  | d, [], xs, ys, b, _, h => by
    intro w n
    rw [List.map_nil, evEqF] at h
    cases h
    simp [Op.eqFields]
  | d, f :: fs, xs, ys, b, hn, h => by
    intro w n
    rw [List.map_cons, evEqF] at h
    split at h
    · cases h
    rename_i ti hti
    have ht := htt _ _ hti
    split at h
    · rename_i x' y' hx hy
      split at h
      · rename_i r r' hr hr'
        cases h
        have h1 := evEqA_sound htt hok d f.type x' y' r hr w n
        have h2 := evEqF_sound htt hok d fs xs ys r' (fun g hg => hn g (List.mem_cons_of_mem _ hg)) hr' w n
        have h0 : f.name ≠ "_" := by simpa using hn f (by simp)
        simp only [Op.eqFields, if_pos h0, Sem.run_bind, shapeUp_part ht hx, shapeUp_part ht hy, Result.andThen_ok, h1]
        cases r
        · simp
        · simpa using h2
      · cases h
    · cases h
  termination_by d fs => (d, fs.length + 1)
theorem evEqI_sound {P : Program} {tt : List (Nat × TI)} (htt : TTok P tt) {ok : Nat → Bool} (hok : ∀ t, ok t = true → eqSide P t = true) : ∀ (d : Nat) (e : Nat) (te : TI), lookT tt e = some te → ∀ (is : List Nat) (xs ys : List SV) (b : Bool), evEqI tt ok d e te.sz te.d.isAgg xs ys is = some b →
    ∀ (w : World) (n : Nat), (Op.eqItems (n + d) e te.sz (denL xs).toArray (denL ys).toArray is).run P w = .ok b w
  | d, e, te, _, [], xs, ys, b, h => by
    intro w n
    rw [evEqI] at h
    cases h
    simp [Op.eqItems]
  | d, e, te, hte, i :: is, xs, ys, b, h => by
    intro w n
    rw [evEqI] at h
    have ht := htt _ _ hte
    split at h
    · rename_i x' y' hx hy
      split at h
      · rename_i r r' hr hr'
        cases h
        have h1 := evEqA_sound htt hok d e x' y' r hr w n
        have h2 := evEqI_sound htt hok d e te hte is xs ys r' hr' w n
        simp only [Op.eqItems, Sem.run_bind, shapeUp_part ht hx, shapeUp_part ht hy, Result.andThen_ok, h1]
        cases r
        · simp
        · simpa using h2
      · cases h
    · cases h
  termination_by d _ _ _ is => (d, is.length + 1)
end

/-- '==' of structs or of arrays. -/
theorem run_eqA {P : Program} {C : Cfg} (htt : TTok P C.tt) {ok : Nat → Bool} (hok : ∀ t, ok t = true → eqSide P t = true) {t : Nat} (hg : P.eqGuardType P.depth t = false) {xs ys : List SV} {b : Bool} (h : evEqA C.tt ok 40 t (.ag xs) (.ag ys) = some b) (w : World) (a c : Operand) :
    (do eqGuard .eql t a c (den (.ag xs)) (den (.ag ys)); binOp .eql t (den (.ag xs)) (den (.ag ys)) : Sem Value).run P w = .ok (.bool b) w := by
  have h1 := evEqA_sound htt hok 40 t _ _ _ h w 9960
  simp only [den, Sem.run_bind] at h1 ⊢
  rw [run_eqGuard_agg w _ _ _ _ _ _ hg]
  simp only [Result.andThen_ok]
  rw [run_eql_struct, show (10000 : Nat) = 9960 + 40 from rfl, h1]
  rfl

theorem exec_eqA {P : Program} {C : Cfg} (htt : TTok P C.tt) {ok : Nat → Bool} (hok : ∀ t, ok t = true → eqSide P t = true) {st : St} {a : Act} {w : World} (he : EnvRep st a) {o : Oper} {t t' : Nat} {x y : Operand} (hop : o.op = .binOp .eql t x y t') {xs ys : List SV}
    (hl : opds st 0 [x, y] = some [.ag xs, .ag ys]) (hg : P.eqGuardType P.depth t = false) {b : Bool} (h : evEqA C.tt ok 40 t (.ag xs) (.ag ys) = some b) : (execOp a.eval o).run P w = .ok (.value (.bool b)) w := by
  have e := opds_sound he (c := 0) rfl _ _ hl
  simp only [List.map_cons, List.map_nil, denL, List.cons.injEq, and_true] at e
  simp only [execOp, hop, e.1, e.2, Sem.run_bind]
  have := run_eqA htt hok hg h w x y
  simp only [Sem.run_bind] at this
  rw [this]
  rfl

/-- A struct's '==' in a plain region. -/
theorem post_eqA {P : Program} {C : Cfg} (htt : TTok P C.tt) {ok : Nat → Bool} (hok : ∀ t, ok t = true → eqSide P t = true) {Q : Exit → Act → World → Prop} {F : Fr} {st : St} {all : Array Oper} {o : Oper} {l : List Oper} {k : List W} {a : Act} {w : World} (hr : RepX F st a w) {t t' : Nat} {x y : Operand} (hop : o.op = .binOp .eql t x y t') {xs ys : List SV}
    (hl : opds st 0 [x, y] = some [.ag xs, .ag ys]) (hg : P.eqGuardType P.depth t = false) {b : Bool} (h : evEqA C.tt ok 40 t (.ag xs) (.ag ys) = some b) (hw : Region.wanted o (yielded all a.tmps) = true) {d : Nat} (hdst : o.dst = some d) (hdn : d < st.nt) (hks : st.ks.all (fun r => r.tj != d) = true)
    (hk : ∀ a', RepX F { st with env := (d, 0, .v (.bool b)) :: st.env } a' w → post P Q (.ops all l :: k) .normal a' w) : post P Q (.ops all (o :: l) :: k) .normal a w := by
  have he := exec_eqA htt hok (hr.env.same (st' := st) rfl rfl rfl rfl) hop hl hg h (w := w)
  show wpList P all (post P Q k) (o :: l) a w
  unfold wpList
  rw [if_pos hw]
  refine .inl ?_
  simp only [Oper.wp, he, Oper.upon, hdst]
  exact hk _ (hr.retK (KeepsTo.refl w []) (by simp) d (.v (.bool b)) rfl st.hp hr.all hdn hks)

/-- The same in a region that draws, where it may come early. -/
theorem post_eqD0 {P : Program} {C : Cfg} (htt : TTok P C.tt) {ok : Nat → Bool} (hok : ∀ t, ok t = true → eqSide P t = true) {Q : Exit → Act → World → Prop} {F : Fr} {st : St} {all : Array Oper} {hp0 : Hp} {o : Oper} {i : Nat} {l : List (Nat × Nat)} {k : List W} {a : Act} {w : World} (hr : RepX F st a w) (hi : all[i]? = some o) {t t' : Nat} {x y : Operand} (hop : o.op = .binOp .eql t x y t') {xs ys : List SV}
    (hl : opds st 0 [x, y] = some [.ag xs, .ag ys]) (hg : P.eqGuardType P.depth t = false) {b : Bool} (h : evEqA C.tt ok 40 t (.ag xs) (.ag ys) = some b) (hw : Region.wanted o (yielded all a.tmps) = true) {d : Nat} (hdst : o.dst = some d) (hdn : d < st.nt) (hks : st.ks.all (fun r => r.tj != d) = true)
    (hk : ∀ a', RepX F { st with env := (d, 0, .v (.bool b)) :: st.env } a' w → post P Q (.opsD all hp0 l :: k) .normal a' w) : post P Q (.opsD all hp0 ((i, 0) :: l) :: k) .normal a w := by
  refine post_stepD0 (v := .bool b) hi hw (fun w' _ => exec_eqA htt hok (hr.env.same (st' := st) rfl rfl rfl rfl) hop hl hg h) ?_
  rw [hdst]
  exact hk _ (hr.retK (KeepsTo.refl w []) (by simp) d (.v (.bool b)) rfl st.hp hr.all hdn hks)

/-! ### Another look at what is there -/
theorem RepX.top {F : Fr} {st : St} {a : Act} {w : World} (h : RepX F st a w) (t : Nat) (x' : SV) {x : SV} (hl : lookD st.env t = some x) (hd : den x' = den x) : RepX F { st with env := (t, 0, x') :: st.env } a w := by
  unfold lookD at hl
  split at hl
  · rename_i y hy
    cases hl
    obtain ⟨h1, h2, h3, h4⟩ := h.env
    refine Rep.of_mem ⟨h1, h2, fun u c z hz => ?_, h4⟩ h.mem
    simp only [look] at hz
    split at hz
    · rename_i e
      cases hz
      have e' : t = u := by simpa using e
      subst e'
      have := h3 t 0 _ hy
      simp only [cnd, if_true] at this ⊢
      exact ⟨this.1, by rw [this.2, hd]⟩
    · exact h3 u c z hz
  · cases hl

/-- The same memory, seen as other blocks. -/
theorem RepX.see {F : Fr} {st : St} {a : Act} {w : World} (h : RepX F st a w) (H : Hp) (hH : HpAll F w H) : RepX F { st with hp := H } a w := h.memK (KeepsTo.refl w []) (by simp) H hH

theorem HpAll.one {F : Fr} {w : World} {b : Nat} {o : SO} (h : o.rep w b) : HpAll F w [(b, false, o)] := ⟨⟨h, by simp, by simp⟩, trivial⟩

/-- Back to the blocks that were seen ahead. -/
theorem RepX.back {F : Fr} {st st1 st' : St} {a a1 a' : Act} {w w' : World} (h : RepX F st a w) (h1 : RepX F st1 a1 w) (hm : mutB st1.hp = []) (h' : RepX (frameAt w st1.hp) st' a' w') : RepX F { st' with hp := st.hp } a' w' :=
  (h1.unbase h').see st.hp (HpAll.to h'.keeps h.all fun e _ hb => by
    have : e.1 ∈ mutB st1.hp := hb
    rw [hm] at this
    cases this)

/-! ### append of nothing -/
theorem run_append_zero {P : Program} {w : World} {t t' e e' ty : TypeId} {te : TI} {base a : Option Addr} {len cap cap2 : Nat} (ht : P.underlying t = some (.slice e)) (ht' : P.underlying t' = some (.slice e')) (h : te.ok P e) (hl : len ≤ cap) :
    (Builtin.append_ #[t, t'] ty #[.slice base len cap, .slice a 0 cap2]).run P w = .ok (.slice base len cap) w := by
  have h1 : (Builtin.lenOf (.slice a 0 cap2)).run P w = .ok 0 w := by simp [Builtin.lenOf]
  have h2 : (Builtin.firstCells te.sz 0 (.slice a 0 cap2)).run P w = .ok #[] w := by
    cases a <;> simp [Builtin.firstCells, loadCells, loadCellsFrom]
  cases base <;> simp [Builtin.append_, run_underlying ht, run_sizeOf' h, run_underlying ht', h1, h2, hl, storeCells]

theorem post_append0 {P : Program} {C : Cfg} (htt : TTok P C.tt) {Q : Exit → Act → World → Prop} {F : Fr} {st : St} {all : Array Oper} {o : Oper} {l : List Oper} {k : List W} {a : Act} {w : World} (hr : RepX F st a w) (hw : Region.wanted o (yielded all a.tmps) = true) {d : Nat} (hdst : o.dst = some d) (hdn : d < st.nt) (hks : st.ks.all (fun r => r.tj != d) = true)
    {x y : SV} {t t' : TypeId} (he : evApp st o.op = some (x, y, t, t')) {e e' : TypeId} {ti ti' te : TI} (ht : lookT C.tt t = some ti) (hd1 : ti.d = .slice e) (ht' : lookT C.tt t' = some ti') (hd2 : ti'.d = .slice e') (hte : lookT C.tt e = some te)
    {base ad : Option Addr} {len cap cap2 : Nat} (hx : den x = .slice base len cap) (hy : den y = .slice ad 0 cap2) (hl : len ≤ cap)
    (hk : ∀ a', RepX F { st with env := (d, 0, x) :: st.env } a' w → post P Q (.ops all l :: k) .normal a' w) : post P Q (.ops all (o :: l) :: k) .normal a w := by
  have e1 := evApp_sound (P := P) (hr.env.same (st' := st) rfl rfl rfl rfl) he w
  rw [hx, hy, run_append_zero ((htt _ _ ht).slice hd1) ((htt _ _ ht').slice hd2) (htt _ _ hte) hl] at e1
  simp only [Result.andThen_ok] at e1
  show wpList P all (post P Q k) (o :: l) a w
  unfold wpList
  rw [if_pos hw]
  refine .inl ?_
  simp only [Oper.wp, e1, Oper.upon, hdst]
  exact hk _ (hr.retK (KeepsTo.refl w []) (by simp) d x hx.symm st.hp hr.all hdn hks)

/-- append whose run is known. -/
theorem post_appE {P : Program} {Q : Exit → Act → World → Prop} {F : Fr} {st : St} {all : Array Oper} {o : Oper} {l : List Oper} {k : List W} {a : Act} {w w' : World} (hr : RepX F st a w) (hw : Region.wanted o (yielded all a.tmps) = true) {d : Nat} (hdst : o.dst = some d)
    {x y : SV} {t t' : TypeId} (he : evApp st o.op = some (x, y, t, t')) {V : Value} (hrun : (Builtin.append_ #[t, t'] o.type #[den x, den y]).run P w = .ok V w') (hk : post P Q (.ops all l :: k) .normal (a.put (some d) V) w') : post P Q (.ops all (o :: l) :: k) .normal a w := by
  have e1 := evApp_sound (P := P) (hr.env.same (st' := st) rfl rfl rfl rfl) he w
  rw [hrun] at e1
  simp only [Result.andThen_ok] at e1
  show wpList P all (post P Q k) (o :: l) a w
  unfold wpList
  rw [if_pos hw]
  refine .inl ?_
  simp only [Oper.wp, e1, Oper.upon, hdst]
  exact hk
end Go.SX
