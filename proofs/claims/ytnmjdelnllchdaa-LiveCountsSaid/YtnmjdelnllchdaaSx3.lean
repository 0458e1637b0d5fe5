/-
  Part 3: the operations that only compute or load: what the state tells of them is what they yield, in every world in which the state's blocks lie. Holds for every program.
-/
import Derived.Test.YtnmjdelnllchdaaSx2
namespace Go.SX
set_option linter.unusedVariables false
set_option linter.unusedSimpArgs false
set_option linter.unusedSectionVars false
open Go

abbrev Hp := List (Nat × Bool × SO)
abbrev Ev := Option (List Prop × SV)

/-! ### Equality -/
def evEq (d : TD) (x y : SV) : Option Bool :=
  match d, x, y with
  | .bool, .v (.bool a), .v (.bool b) => some (a == b)
  | .ptr _, .ptr .., .v (.pointer none) => some false
  | .ptr _, .el .., .v (.pointer none) => some false
  | .ptr _, .v (.pointer none), .v (.pointer none) => some true
  | .slice _, .sl .., .v (.slice none _ _) => some false
  | .slice _, .v (.slice none _ _), .v (.slice none _ _) => some true
  | .slice _, .v (.slice (some _) _ _), .v (.slice none _ _) => some false
  | .func, .fn .., .v .nilFunc => some false
  | .func, .v .nilFunc, .v .nilFunc => some true
  | .map .., .v (.map none), .v (.map none) => some true
  | .map .., .v (.map (some _)), .v (.map none) => some false
  | .map .., .mp .., .v (.map none) => some false
  | _, _, _ => none

theorem TI.ok.bool {P : Program} {t : TypeId} {i : TI} (h : i.ok P t) (hd : i.d = .bool) : P.underlying t = some .bool := by
  obtain ⟨d, h1, h2⟩ := h.under
  rw [hd] at h2
  cases d <;> simp [toTD] at h2
  exact h1
theorem TI.ok.func {P : Program} {t : TypeId} {i : TI} (h : i.ok P t) (hd : i.d = .func) : ∃ p r v, P.underlying t = some (.func p r v) := by
  obtain ⟨d, h1, h2⟩ := h.under
  rw [hd] at h2
  cases d <;> simp [toTD] at h2
  exact ⟨_, _, _, h1⟩

theorem evEq_in {P : Program} {t : TypeId} {i : TI} (h : i.ok P t) {x y : SV} {b : Bool} (he : evEq i.d x y = some b) (w : World) (d : Nat) :
    (Op.equalIn (d + 1) t (den x) (den y)).run P w = .ok b w := by
  unfold evEq at he
  split at he <;> first | (cases he; done) | skip
  all_goals (rename_i hd; cases he)
  all_goals first
    | (have hu := h.bool hd; simp [den, Op.equalIn, run_underlying hu]; done)
    | (have hu := h.ptr hd; simp [den, Op.equalIn, run_underlying hu]; done)
    | (have hu := h.slice hd; simp [den, Op.equalIn, run_underlying hu]; done)
    | (have hu := h.map hd; simp [den, Op.equalIn, run_underlying hu]; done)
    | (obtain ⟨p, r, v, hu⟩ := h.func hd; simp [den, Op.equalIn, run_underlying hu]; done)

theorem run_equal {P : Program} {w : World} {t : TypeId} {x y : Value} {b : Bool} (h : ∀ d, (Op.equalIn (d + 1) t x y).run P w = .ok b w) : (Op.equal t x y).run P w = .ok b w := h 9999

theorem evEq_sound {P : Program} {t : TypeId} {i : TI} (h : i.ok P t) {x y : SV} {b : Bool} (he : evEq i.d x y = some b) (w : World) :
    (binOp .eql t (den x) (den y)).run P w = .ok (.bool b) w ∧ (binOp .neq t (den x) (den y)).run P w = .ok (.bool (!b)) w ∧
    ∀ op (a c : Operand), eqGuard op t a c (den x) (den y) = pure () := by
  have hq : (Op.equal t (den x) (den y)).run P w = .ok b w := run_equal (evEq_in h he w)
  unfold evEq at he
  split at he <;> first | (cases he; done) | skip
  all_goals cases he
  all_goals simp only [den] at hq ⊢
  all_goals refine ⟨by simp only [binOp, Sem.run_bind, hq, Result.andThen_ok, Sem.run_pure], by simp only [binOp, Sem.run_bind, hq, Result.andThen_ok, Sem.run_pure], fun op a c => ?_⟩
  all_goals first
    | exact eqGuard_at_bool .. | exact eqGuard_at_pointer .. | exact eqGuard_at_slice .. | exact eqGuard_at_func .. | exact eqGuard_at_nilFunc .. | exact eqGuard_at_map ..

/-! ### Loads -/
def evLoad (tt : List (Nat × TI)) (hp : Hp) (t : TypeId) (x : SV) : Ev :=
  match lookT tt t with
  | none => none
  | some ti => match x with
    | .ptr i b o => match hp[i]? with
      | some (b', _, .cells l _) => (shapeUp ti.d.isAgg ti.sz ((l.drop o).take ti.sz)).map fun y => ([b = b'], y)
      | _ => none
    | .el i b o0 idx sz sub => match hp[i]? with
      | some (b', _, .arr o0' n row sz' _ _) => if sz = sz' then (shapeUp ti.d.isAgg ti.sz (((row idx).drop sub).take ti.sz)).map fun y => ([b = b', o0 = o0', idx < n], y) else none
      | _ => none
    | _ => none

theorem evLoad_sound {P : Program} {tt : List (Nat × TI)} (htt : TTok P tt) {hp : Hp} {w : World} (hh : HpRep hp w) {t : TypeId} {x : SV} {obs : List Prop} {y : SV}
    (h : evLoad tt hp t x = some (obs, y)) (ho : ∀ p ∈ obs, p) : (Instr.loadAt t (den x)).run P w = .ok (den y) w := by
  unfold evLoad at h
  split at h
  · cases h
  rename_i ti hti
  have hok := htt t ti hti
  split at h
  · rename_i i b o
    split at h
    · rename_i b' m l u hb
      simp only [Option.map_eq_some_iff, Prod.mk.injEq] at h
      obtain ⟨z, hz, h1, h2⟩ := h
      subst h1; subst h2
      have e : b = b' := ho _ (by simp)
      subst e
      have hr : w.heap[b]? = some (.cells (denL l).toArray u (0, 0)) := hh i b m _ hb
      simp only [Instr.loadAt, Instr.sureAddr, den, Sem.run_bind, Sem.run_pure, Result.andThen_ok]
      refine run_loadVar hok hz fun j hj => ?_
      rw [cell_of hr, denL_get?, List.getElem?_toArray, denL_get?]
      simp only [List.length_take, List.length_drop] at hj
      rw [List.getElem?_take_of_lt (by omega), List.getElem?_drop]
    · cases h
  · rename_i i b o0 idx sz sub
    split at h
    · rename_i b' m o0' n row sz' u fz hb
      split at h
      · rename_i hsz
        simp only [Option.map_eq_some_iff, Prod.mk.injEq] at h
        obtain ⟨z, hz, h1, h2⟩ := h
        subst h1; subst h2
        have e : b = b' := ho _ (by simp)
        have e0 : o0 = o0' := ho _ (by simp)
        have hlt : idx < n := ho _ (by simp)
        subst e
        subst e0
        subst hsz
        obtain ⟨c, hc, hsize, hrow⟩ := hh i b m _ hb
        simp only [Instr.loadAt, Instr.sureAddr, den, Sem.run_bind, Sem.run_pure, Result.andThen_ok]
        obtain ⟨hl, hg⟩ := hrow idx hlt
        refine run_loadVar hok hz fun j hj => ?_
        simp only [List.length_take, List.length_drop, hl] at hj
        rw [cell_of hc, Nat.add_assoc, Nat.add_assoc, hg (sub + j) (by omega), denL_get?, denL_get?, List.getElem?_take_of_lt (by omega), List.getElem?_drop]
      · cases h
    · cases h
  · cases h

/-! ### Addresses of parts -/
def evFieldAddr (tt : List (Nat × TI)) (t : TypeId) (x : SV) (f : Nat) : Option SV :=
  match lookT tt t with
  | some { d := .struct fs, .. } => match fs[f]? with
    | some (off, ft) => match lookT tt ft with
      | some fi => if fi.sz = 0 then none else match x with
        | .ptr i b o => some (.ptr i b (o + off))
        | .el i b o0 idx sz sub => some (.el i b o0 idx sz (sub + off))
        | _ => none
      | none => none
    | none => none
  | _ => none

theorem struct_field {P : Program} {t : TypeId} {ti : TI} (h : ti.ok P t) {fs : List (Nat × Nat)} (hd : ti.d = .struct fs) {f off ft : Nat} (hf : fs[f]? = some (off, ft)) :
    ∃ (a : Array Field) (g : Field), P.underlying t = some (.struct a) ∧ a[f]? = some g ∧ g.offset = off ∧ g.type = ft := by
  obtain ⟨a, h1, h2⟩ := h.struct hd
  rw [← h2, List.getElem?_map] at hf
  cases hg : a.toList[f]? with
  | none => rw [hg] at hf; cases hf
  | some g =>
    rw [hg] at hf
    simp only [Option.map_some, Option.some.injEq, Prod.mk.injEq] at hf
    exact ⟨a, g, h1, by simpa using hg, hf.1, hf.2⟩

theorem evFieldAddr_sound {P : Program} {tt : List (Nat × TI)} (htt : TTok P tt) {t : TypeId} {x y : SV} {f : Nat} (h : evFieldAddr tt t x f = some y) (w : World) :
    (Instr.fieldAt t (den x) f).run P w = .ok (den y) w := by
  unfold evFieldAddr at h
  split at h
  · rename_i fs _ _ _ hti
    split at h
    · rename_i off ft hf
      split at h
      · rename_i fi hfi
        obtain ⟨a, g, h1, h2, h3, h4⟩ := struct_field (htt _ _ hti) rfl hf
        have hs := run_sizeOf' (htt _ _ hfi) w
        split at h
        · cases h
        rename_i hz
        have hfp : ∀ ad : Addr, (fieldPlace ad g).run P w = .ok (ad.add off) w := fun ad => by
          simp only [fieldPlace, Sem.run_bind, h4, hs, Result.andThen_ok, if_neg hz, h3, Sem.run_pure]
        split at h <;> first | (cases h; done) | skip
        · cases h
          simp [Instr.fieldAt, run_underlying h1, h2, den, Instr.sureAddr, hfp, add_none]
        · cases h
          simp [Instr.fieldAt, run_underlying h1, h2, den, Instr.sureAddr, hfp, add_none, Nat.add_assoc]
      · cases h
    · cases h
  · cases h

/-- A part of a struct's value. -/
def evField (tt : List (Nat × TI)) (t : TypeId) (x : SV) (f : Nat) : Option SV :=
  match lookT tt t with
  | some { d := .struct fs, .. } => match fs[f]? with
    | some (off, ft) => match lookT tt ft with
      | some fi => match x with
        | .ag l => shapeUp fi.d.isAgg fi.sz ((l.drop off).take fi.sz)
        | _ => none
      | none => none
    | none => none
  | _ => none

theorem shapeUp_part {P : Program} {t : TypeId} {ti : TI} (h : ti.ok P t) {l : List SV} {off : Nat} {y : SV} (hs : shapeUp ti.d.isAgg ti.sz ((l.drop off).take ti.sz) = some y) (w : World) :
    (part t (denL l).toArray off).run P w = .ok (den y) w := by
  unfold part shapeUp at *
  simp only [Sem.run_bind, run_isAgg h, Result.andThen_ok]
  split at hs
  · rename_i hagg
    split at hs
    · cases hs
      simp only [hagg, if_true, Sem.run_bind, run_sizeOf' h, Result.andThen_ok, Sem.run_pure, den]
      congr 2
      rw [List.extract_toArray, denL_take, denL_drop, List.extract_eq_take_drop]
      congr 2
      omega
    · cases hs
  · rename_i hagg
    have hagg' : ti.d.isAgg = false := by simpa using hagg
    simp only [hagg', Bool.false_eq_true, if_false]
    split at hs
    · rename_i z hz
      cases hs
      have h1 : ((l.drop off).take ti.sz)[0]? = some y := by rw [hz]; rfl
      have h0 : 0 < ti.sz := by
        rcases Nat.eq_zero_or_pos ti.sz with h0 | h0
        · rw [h0] at h1; simp at h1
        · exact h0
      rw [List.getElem?_take_of_lt h0, List.getElem?_drop, Nat.add_zero] at h1
      have : (denL l).toArray[off]? = some (den y) := by rw [List.getElem?_toArray, denL_get?, h1]; rfl
      simp [this]
    · cases hs

theorem evField_sound {P : Program} {tt : List (Nat × TI)} (htt : TTok P tt) {t : TypeId} {x y : SV} {f : Nat} (h : evField tt t x f = some y) (w : World) :
    (Instr.field t (den x) f).run P w = .ok (den y) w := by
  unfold evField at h
  split at h
  · rename_i fs _ _ _ hti
    split at h
    · rename_i off ft hf
      split at h
      · rename_i fi hfi
        obtain ⟨a, g, h1, h2, h3, h4⟩ := struct_field (htt _ _ hti) rfl hf
        split at h
        · simp [Instr.field, run_underlying h1, h2, den, asAgg, h3, h4, shapeUp_part (htt _ _ hfi) h]
        · cases h
      · cases h
    · cases h
  · cases h

def evIndexAddr (tt : List (Nat × TI)) (hp : Hp) (t : TypeId) (x ix : SV) : Ev :=
  match lookT tt t, ix with
  | some { d := .slice e, .. }, .v (.int _ n) => match lookT tt e with
    | some te => match x with
      | .sl i b o0 base len _ sz => if te.sz = sz then some ([0 ≤ n, n < (len : Int)], .el i b o0 (base + n.toNat) sz 0) else none
      | _ => none
    | none => none
  | some { d := .arr N e, .. }, .v (.int _ n) => match lookT tt e with
    | some te => match x with
      | .ptr i b o => match hp[i]?, o with
        | some (_, _, .arr ..), 0 => some ([0 ≤ n, n < (N : Int)], .el i b 0 n.toNat te.sz 0)
        | _, _ => some ([0 ≤ n, n < (N : Int)], .ptr i b (o + n.toNat * te.sz))
      | .el i b o0 idx sz sub => some ([0 ≤ n, n < (N : Int)], .el i b o0 idx sz (sub + n.toNat * te.sz))
      | _ => none
    | none => none
  | _, _ => none

theorem evIndexAddr_sound {P : Program} {tt : List (Nat × TI)} (htt : TTok P tt) {hp : Hp} {t : TypeId} {x ix y : SV} {obs : List Prop} (h : evIndexAddr tt hp t x ix = some (obs, y)) (ho : ∀ p ∈ obs, p) (w : World) :
    (Instr.indexAt t (den x) (den ix)).run P w = .ok (den y) w := by
  unfold evIndexAddr at h
  split at h
  · rename_i e _ _ _ k n hti
    have hu := (htt _ _ hti).slice rfl
    split at h
    · rename_i te hte
      have hs := run_sizeOf' (htt _ _ hte) w
      split at h
      · rename_i i b o0 base len cap sz
        split at h
        · rename_i hsz
          cases h
          have h0 : 0 ≤ n := ho _ (by simp)
          have h1 : n < (len : Int) := ho _ (by simp)
          simp [Instr.indexAt, den, asIntOf, run_underlying hu, hs, h0, h1, add_none, hsz, Nat.add_mul, Nat.add_assoc]
        · cases h
      · cases h
    · cases h
  · rename_i N e _ _ _ k n hti
    have hu := (htt _ _ hti).arr rfl
    split at h
    · rename_i te hte
      have hs := run_sizeOf' (htt _ _ hte) w
      split at h
      · split at h
        · cases h
          have h0 : 0 ≤ n := ho _ (by simp)
          have h1 : n < (N : Int) := ho _ (by simp)
          simp [Instr.indexAt, den, asIntOf, run_underlying hu, hs, h0, h1, add_none, Instr.sureAddr]
        · cases h
          have h0 : 0 ≤ n := ho _ (by simp)
          have h1 : n < (N : Int) := ho _ (by simp)
          simp [Instr.indexAt, den, asIntOf, run_underlying hu, hs, h0, h1, add_none, Instr.sureAddr]
      · cases h
        have h0 : 0 ≤ n := ho _ (by simp)
        have h1 : n < (N : Int) := ho _ (by simp)
        simp [Instr.indexAt, den, asIntOf, run_underlying hu, hs, h0, h1, add_none, Instr.sureAddr, Nat.add_assoc]
      · cases h
    · cases h
  · cases h


/-! ### Two operands -/
def evStr (op : BinOp) (a b : ByteArray) : Ev :=
  match op with
  | .eql => some ([], .v (.bool (a.toList == b.toList)))
  | .neq => some ([], .v (.bool (!(a.toList == b.toList))))
  | .add => some ([(a.size + b.size : Int) ≤ 9223372036854775807], .v (.string (a ++ b)))
  | .lss => some ([], .v (.bool (Op.bytesLess a.toList b.toList)))
  | _ => none

def evBin (nw : Bool) (tt : List (Nat × TI)) (op : BinOp) (t : TypeId) (x y : SV) : Ev :=
  match x, y with
  | .v (.int k a), .v (.int k' b) => evInt nw op k a k' b
  | .v (.string a), .v (.string b) => evStr op a b
  | x, y => match lookT tt t, op with
    | some ti, .eql => (evEq ti.d x y).map fun b => ([], .v (.bool b))
    | some ti, .neq => (evEq ti.d x y).map fun b => ([], .v (.bool (!b)))
    | _, _ => none

theorem evBin_sound {P : Program} {tt : List (Nat × TI)} (htt : TTok P tt) {nw : Bool} {op : BinOp} {t : TypeId} {x y z : SV} {obs : List Prop} (h : evBin nw tt op t x y = some (obs, z)) (ho : ∀ p ∈ obs, p)
    (a c : Operand) (w : World) : (do eqGuard op t a c (den x) (den y); binOp op t (den x) (den y) : Sem Value).run P w = .ok (den z) w := by
  unfold evBin at h
  split at h
  · rename_i k a' k' b'
    simp only [den, eqGuard_at_int, pure_bind]
    exact evInt_sound h ho
  · rename_i a' b'
    simp only [den, eqGuard_at_string, pure_bind]
    unfold evStr at h
    split at h <;> first | (cases h; done) | skip
    · cases h; simp only [binOp, Op.stringOp, Sem.run_pure, den]
    · cases h; simp only [binOp, Op.stringOp, Sem.run_pure, den]
    · cases h
      have h1 := ho _ (List.mem_singleton.2 rfl)
      have h2 : ¬ ((a'.size + b'.size : Nat) : Int) > IntKind.i64.max := by
        have : IntKind.i64.max = 9223372036854775807 := by decide
        rw [this]; omega
      simp only [binOp, Op.stringOp, if_neg h2, Sem.run_pure, den]
    · cases h; simp only [binOp, Op.stringOp, Sem.run_pure, den]
  · split at h
    · rename_i ti hti
      simp only [Option.map_eq_some_iff, Prod.mk.injEq] at h
      obtain ⟨b, hb, h1, h2⟩ := h
      subst h2
      obtain ⟨e1, _, e3⟩ := evEq_sound (htt _ _ hti) hb w
      simp only [e3, pure_bind, e1, den]
    · rename_i ti hti
      simp only [Option.map_eq_some_iff, Prod.mk.injEq] at h
      obtain ⟨b, hb, h1, h2⟩ := h
      subst h2
      obtain ⟨_, e2, e3⟩ := evEq_sound (htt _ _ hti) hb w
      simp only [e3, pure_bind, e2, den]
    · cases h

/-! ### Struct and array values -/
def evFill (places : Nat → Option (Nat × Nat)) : List SV → List (Nat × SV) → Option (List SV)
  | z, [] => some z
  | z, (i, x) :: r => match places i with
    | some (off, size) => if x.cells.length = size ∧ off + size ≤ z.length then evFill places (spliceL z off x.cells) r else none
    | none => none

theorem zipIdx_putAll : ∀ (l : List Value) (k off : Nat) (c : Array Value), (l.zipIdx k).foldl (fun cs (p : Value × Nat) => cs.setIfInBounds (off + p.2) p.1) c = putAll c (off + k) l
  | [], _, _, _ => rfl
  | v :: r, k, off, c => by
    simp only [List.zipIdx_cons, List.foldl_cons, putAll]
    rw [zipIdx_putAll r (k + 1) off]
    rfl

theorem evFill_sound {places : Nat → Option (Nat × Nat)} : ∀ (parts : List (Nat × SV)) (z r : List SV), evFill places z parts = some r →
    Instr.fill places (denL z).toArray (parts.map fun p => (p.1, den p.2)) = some (denL r).toArray
  | [], z, r, h => by cases h; rfl
  | (i, x) :: l, z, r, h => by
    simp only [evFill] at h
    split at h
    · rename_i off size hp
      split at h
      · rename_i hc
        simp only [List.map_cons, Instr.fill, hp, SV.cells_den]
        rw [if_neg (by simp [denL_length]; omega)]
        rw [← Array.foldl_toList, Array.toList_zipIdx]
        have := zipIdx_putAll (denL x.cells) 0 off (denL z).toArray
        simp only [Nat.add_zero] at this
        rw [show (denL x.cells).toArray.toList = denL x.cells from rfl]
        rw [this, putAll_splice (by omega)]
        exact evFill_sound l _ _ h
      · cases h
    · cases h

def cellsV (x : Value) : List SV := x.cells.toList.map .v
theorem denL_cellsV (x : Value) : denL (cellsV x) = x.cells.toList := by simp [cellsV, denL_map_v]

def szs (tt : List (Nat × TI)) : List (Nat × Nat) → Option (List (Nat × Nat))
  | [] => some []
  | (off, ft) :: r => match lookT tt ft, szs tt r with
    | some i, some l => some ((off, i.sz) :: l)
    | _, _ => none

theorem run_places {P : Program} {tt : List (Nat × TI)} (htt : TTok P tt) (w : World) : ∀ (fs : List Field) (l : List (Nat × Nat)), szs tt (fs.map fun f => (f.offset, f.type)) = some l →
    (fs.mapM fun f => (do pure (f.offset, ← sizeOf f.type) : Sem (Nat × Nat))).run P w = .ok l w
  | [], l, h => by cases h; simp
  | f :: fs, l, h => by
    simp only [List.map_cons, szs] at h
    split at h
    · rename_i i l' h1 h2
      cases h
      simp only [List.mapM_cons, Sem.run_bind, run_sizeOf' (htt _ _ h1), Result.andThen_ok, Sem.run_pure, run_places htt w fs l' h2]
    · cases h

/-- 'T{..}'. -/
def evBuild (tt : List (Nat × TI)) (t : TypeId) (parts : List (Nat × SV)) : Option SV :=
  match lookT tt t with
  | some { d := .struct fs, zero, .. } => match szs tt fs with
    | some l => (evFill (l[·]?) (cellsV zero) parts).map .ag
    | none => none
  | some { d := .arr _ e, zero, .. } => match lookT tt e with
    | some te => (evFill (fun i => some (i * te.sz, te.sz)) (cellsV zero) parts).map .ag
    | none => none
  | _ => none

theorem evBuild_sound {P : Program} {tt : List (Nat × TI)} (htt : TTok P tt) {t : TypeId} {parts : Array (Nat × Value)} {ps : List (Nat × SV)} (hps : parts.toList = ps.map fun p => (p.1, den p.2)) {y : SV} (h : evBuild tt t ps = some y) (w : World) :
    (Instr.build t parts).run P w = .ok (den y) w := by
  unfold evBuild at h
  split at h
  · rename_i fs _ _ zero hti
    have hok := htt _ _ hti
    obtain ⟨a, h1, h2⟩ := hok.struct rfl
    split at h
    · rename_i l hl
      simp only [Option.map_eq_some_iff] at h
      obtain ⟨r, hr, rfl⟩ := h
      have hm : (a.mapM fun f => (do pure (f.offset, ← sizeOf f.type) : Sem (Nat × Nat))).run P w = .ok l.toArray w := by
        rw [Array.mapM_eq_mapM_toList]
        rw [← h2] at hl
        simp only [Sem.run_map, run_places htt w _ _ hl, Result.andThen_ok]
      simp only [Instr.build, Sem.run_bind, run_zeroValue' hok, Result.andThen_ok, run_underlying h1, hm]
      have hf := evFill_sound ps _ _ hr
      rw [denL_cellsV] at hf
      rw [hps]
      simp only [List.getElem?_toArray, Array.toArray_toList] at hf ⊢
      simp [hf, den]
    · cases h
  · rename_i n e _ _ zero hti
    have hok := htt _ _ hti
    have h1 := hok.arr rfl
    split at h
    · rename_i te hte
      simp only [Option.map_eq_some_iff] at h
      obtain ⟨r, hr, rfl⟩ := h
      simp only [Instr.build, Sem.run_bind, run_zeroValue' hok, Result.andThen_ok, run_underlying h1, run_sizeOf' (htt _ _ hte)]
      have hf := evFill_sound ps _ _ hr
      rw [denL_cellsV] at hf
      rw [hps]
      simp only [Array.toArray_toList] at hf ⊢
      simp [hf, den]
    · cases h
  · cases h

end Go.SX
