/-
  Part 5: one operation, guarded or not, that computes, loads, stores, or makes a block. Holds for every program.
-/
import Derived.Test.YtnmjdelnllchdaaSx4s
namespace Go.SX
set_option linter.unusedVariables false
set_option linter.unusedSimpArgs false
set_option linter.unusedSectionVars false
open Go

def optOpd (st : St) (c : Nat) : Option Operand → Option (Option SV)
  | none => some none
  | some x => match opd st c x with
    | some s => some (some s)
    | none => none

theorem optOpd_sound {st : St} {a : Act} {c : Nat} (hr : EnvRep st a) (hc : cnd st.cs c = true) {x : Option Operand} {s : Option SV} (h : optOpd st c x = some s) : x.map a.eval = s.map den := by
  cases x with
  | none => cases h; rfl
  | some y =>
    simp only [optOpd] at h
    split at h
    · rename_i z hz; cases h; simp [opd_sound hr hc hz]
    · cases h

def evNil : SV → Option SV
  | .ptr i b o => some (.ptr i b o)
  | .el i b o0 idx sz sub => some (.el i b o0 idx sz sub)
  | .v (.pointer (some a)) => some (.v (.pointer (some a)))
  | .fn (.func f) l r => some (.fn (.func f) l r)
  | _ => none

def evUn (nw : Bool) (op : UnOp) : SV → Ev
  | .v (.bool b) => match op with
    | .not => some ([], .v (.bool (!b)))
    | _ => none
  | .v (.int k n) => match op with
    | .neg => some (arith nw k (0 - n))
    | .xor => some ([], .v (.int k (bitv .xor k (if k.signed then -1 else k.max) n)))
    | _ => none
  | _ => none

def evIndex (tt : List (Nat × TI)) (t : TypeId) (x ix : SV) : Ev :=
  match x, ix with
  | .v (.string s), .v (.int _ n) => match lookT tt t with
    | some { d := .str, .. } => some ([0 ≤ n, n < (s.size : Int)], .v (.int .u8 (s.data.getD n.toNat 0).toNat))
    | _ => none
  | _, _ => none

def pickOpd (st : St) (c tc pc : Nat) (want : Bool) (x : Operand) : Option SV :=
  match opd st c x with
  | some s => some s
  | none => match x with
    | .tmp t => match look st.env t with
      | some (ci, s) => if st.ks.any (fun r => r.tj == tc && r.want == want && r.ci == ci && r.pi == pc) then some s else none
      | none => none
    | _ => none

def lookB : List (Nat × Bool) → Nat → Option Bool
  | [], _ => none
  | (u, d) :: r, t => if u == t then some d else lookB r t

def evPick (st : St) (c tc : Nat) (a b : Operand) : Ev :=
  match look st.env tc with
  | some (pc, .v (.bool B)) => if pc == 0 || pc == c then (match lookB st.gd tc with
    | some true => (opd st c a).map fun x => ([B = true], x)
    | some false => (opd st c b).map fun x => ([B = false], x)
    | none => match a, b with
    | a, .const (.bool false) => match pickOpd st c tc pc true a with
      | some (.v (.bool x)) => some ([], .v (.bool (B && x)))
      | _ => none
    | .const (.bool true), b => match pickOpd st c tc pc false b with
      | some (.v (.bool y)) => some ([], .v (.bool (B || y)))
      | _ => none
    | _, _ => none) else none
  | _ => none

theorem pickOpd_sound {st : St} {a : Act} {c tc pc : Nat} {want B : Bool} {x : Operand} {s : SV} (hr : EnvRep st a) (hc : cnd st.cs c = true) (hl : look st.env tc = some (pc, .v (.bool B)))
    (hpc : cnd st.cs pc = true) (h : pickOpd st c tc pc want x = some s) (hB : B = want) : a.eval x = den s := by
  unfold pickOpd at h
  split at h
  · rename_i s' hs; cases h; exact opd_sound hr hc hs
  · split at h
    · rename_i t hx
      split at h
      · rename_i ci s' hl'
        split at h
        · rename_i hany
          cases h
          simp only [List.any_eq_true, Bool.and_eq_true, beq_iff_eq] at hany
          obtain ⟨r, hmem, ⟨⟨h1, h2⟩, h3⟩, h4⟩ := hany
          obtain ⟨_, e1, e2⟩ := hr.2.2.2 r hmem
          have e3 := (hr.2.2.1 _ _ _ hl).2
          rw [h1, e3, h4, if_pos hpc, if_pos hpc] at e1
          simp only [den, Option.some.injEq, Value.bool.injEq] at e1
          have hci : cnd st.cs ci = true := by rw [← h3, e2, h4, hpc, ← e1, hB, h2]; simp
          have e4 := (hr.2.2.1 _ _ _ hl').2
          rw [if_pos hci] at e4
          simp [Act.eval, Array.getD_eq_getD_getElem?, e4]
        · cases h
      · cases h
    · cases h

def TD.isIface : TD → Bool
  | .iface => true
  | _ => false

/-- What an operation that only computes or loads yields, by the state. 'hp': the blocks that may be looked at. -/
def evOp (nw : Bool) (tt : List (Nat × TI)) (st : St) (hp : Hp) (c : Nat) : Op → Ev
  | .move x => (opd st c x).map fun y => ([], y)
  | .assign x => (opd st c x).map fun y => ([], y)
  | .pick (.tmp tc) a b => evPick st c tc a b
  | .nilCheck x => match opd st c x with
    | some y => (evNil y).map fun z => ([], z)
    | none => none
  | .unOp op _ x => match opd st c x with
    | some y => evUn nw op y
    | none => none
  | .binOp op t x y _ => match opd st c x, opd st c y with
    | some (.ptr i b o), some (.ptr j b' o') => evPtrEq tt hp op t i b o j b' o'
    | some u, some v => evBin nw tt op t u v
    | _, _ => none
  | .fieldAddr t x f => match opd st c x with
    | some y => (evFieldAddr tt t y f).map fun z => ([], z)
    | none => none
  | .field t x f => match opd st c x with
    | some y => (evField tt t y f).map fun z => ([], z)
    | none => none
  | .indexAddr t x ix => match opd st c x, opd st c ix with
    | some y, some z => evIndexAddr tt hp t y z
    | _, _ => none
  | .index t x ix => match opd st c x, opd st c ix with
    | some y, some z => evIndex tt t y z
    | _, _ => none
  | .load t x => match opd st c x with
    | some y => evLoad tt hp t y
    | none => none
  | .extract x i => match opd st c x with
    | some (.tu l) => (l[i]?).map fun z => ([], z)
    | _ => none
  | .build t parts => match opds st c (parts.toList.map (·.2)) with
    | some l => (evBuild tt t ((parts.toList.map (·.1)).zip l)).map fun z => ([], z)
    | none => none
  | .convert s d x => match opd st c x with
    | some y => evConvH tt hp s d y
    | none => none
  | .slice t x lo hi none => match opd st c x, optOpd st c lo, optOpd st c hi with
    | some y, some l, some h => evSlice tt t y l h
    | _, _, _ => none
  | .call { callee := .builtin b, args, argTypes } => match opds st c args.toList with
    | some l => (evBuiltin tt b argTypes.toList l).map fun z => ([], z)
    | none => none
  | .makeFunc f first cap => match opds st c first.toList, opds st c cap.toList with
    | some l, some r => some ([], .fn f l r)
    | _, _ => none
  | .makeInterface t x => match opd st c x, lookT tt t with
    | some y, some ti => if ti.d.isIface then none else some ([], .v (.iface t (den y)))
    | _, _ => none
  | .lookup t x ix ok => match opd st c x, opd st c ix with
    | some y, some z => evLookup tt hp t y z ok
    | _, _ => none
  | _ => none

theorem zip_den {l : List (Nat × Operand)} {st : St} {a : Act} {c : Nat} (hr : EnvRep st a) (hc : cnd st.cs c = true) {r : List SV} (h : opds st c (l.map (·.2)) = some r) :
    (l.map fun (i, x) => (i, a.eval x)) = ((l.map (·.1)).zip r).map fun p => (p.1, den p.2) := by
  induction l generalizing r with
  | nil => cases h; rfl
  | cons p l ih =>
    simp only [List.map_cons, opds] at h
    split at h
    · rename_i s r' h1 h2
      cases h
      simp [ih h2, opd_sound hr hc h1]
    · cases h

theorem evOp_sound {P : Program} {tt : List (Nat × TI)} (htt : TTok P tt) {nw : Bool} {st : St} {hp : Hp} {c : Nat} {o : Oper} {obs : List Prop} {x : SV} {a : Act} {w : World}
    (he : EnvRep st a) (hc : cnd st.cs c = true) (hh : HpRep hp w) (h : evOp nw tt st hp c o.op = some (obs, x)) (ho : ∀ p ∈ obs, p) : (execOp a.eval o).run P w = .ok (.value (den x)) w := by
  unfold evOp at h
  split at h
  · rename_i y hop
    simp only [Option.map_eq_some_iff, Prod.mk.injEq] at h
    obtain ⟨z, hz, _, rfl⟩ := h
    simp [execOp, hop, opd_sound he hc hz]
  · rename_i y hop
    simp only [Option.map_eq_some_iff, Prod.mk.injEq] at h
    obtain ⟨z, hz, _, rfl⟩ := h
    simp [execOp, hop, opd_sound he hc hz]
  · rename_i tc y z hop
    unfold evPick at h
    split at h
    · rename_i pc B hl
      split at h
      · rename_i hpc
        have hpc' : cnd st.cs pc = true := by
          simp only [Bool.or_eq_true, beq_iff_eq] at hpc
          rcases hpc with rfl | rfl
          · rfl
          · exact hc
        have e0 := (he.2.2.1 _ _ _ hl).2
        rw [if_pos hpc'] at e0
        have e1 : a.eval (.tmp tc) = .bool B := by simp [Act.eval, Array.getD_eq_getD_getElem?, e0, den]
        split at h
        · simp only [Option.map_eq_some_iff, Prod.mk.injEq] at h
          obtain ⟨u, hu, h1, rfl⟩ := h
          subst h1
          have hB : B = true := ho _ (by simp)
          simp [execOp, hop, e1, asBool, hB, opd_sound he hc hu]
        · simp only [Option.map_eq_some_iff, Prod.mk.injEq] at h
          obtain ⟨u, hu, h1, rfl⟩ := h
          subst h1
          have hB : B = false := ho _ (by simp)
          simp [execOp, hop, e1, asBool, hB, opd_sound he hc hu]
        split at h
        · split at h
          · rename_i x' hx
            cases h
            have := fun hB => pickOpd_sound he hc hl hpc' hx hB
            simp only [execOp, hop, e1, asBool, Sem.run_bind, Sem.run_pure, Result.andThen_ok]
            cases B
            · simp [Act.eval, den]
            · simp [this rfl, den]
          · cases h
        · split at h
          · rename_i x' hx
            cases h
            have := fun hB => pickOpd_sound he hc hl hpc' hx hB
            simp only [execOp, hop, e1, asBool, Sem.run_bind, Sem.run_pure, Result.andThen_ok]
            cases B
            · simp [this rfl, den]
            · simp [Act.eval, den]
          · cases h
        · cases h
      · cases h
    · cases h
  · rename_i y hop
    split at h
    · rename_i z hz
      simp only [Option.map_eq_some_iff, Prod.mk.injEq] at h
      obtain ⟨u, hu, _, rfl⟩ := h
      unfold evNil at hu
      split at hu <;> first | (cases hu; done) | (cases hu; simp [execOp, hop, opd_sound he hc hz, den])
    · cases h
  · rename_i op _ y hop
    split at h
    · rename_i z hz
      unfold evUn at h
      split at h
      · split at h
        · cases h; simp [execOp, hop, opd_sound he hc hz, den, Op.unary]
        · cases h
      · split at h
        · simp only [Option.some.injEq] at h
          rw [Prod.ext_iff] at h
          obtain ⟨h1, h2⟩ := h
          simp only [] at h1 h2
          subst h1; subst h2
          simp only [execOp, hop, opd_sound he hc hz, den, Op.unary, Op.intArith, arith_sound ho, Sem.run_bind, Sem.run_pure, Result.andThen_ok]
        · cases h; simp [execOp, hop, opd_sound he hc hz, den, Op.unary, Op.intBits, bitv]
        · cases h
      · cases h
    · cases h
  · rename_i op t y z ty hop
    split at h
    · rename_i i b o j b' o' hu hv
      have := evPtrEq_sound htt hh h ho y z
      simp only [Sem.run_bind] at this
      simp only [execOp, hop, opd_sound he hc hu, opd_sound he hc hv, den, Sem.run_bind, this, Result.andThen_ok, Sem.run_pure]
    · rename_i u v _ hu hv
      have := evBin_sound htt h ho y z w
      simp only [Sem.run_bind] at this
      simp only [execOp, hop, opd_sound he hc hu, opd_sound he hc hv, Sem.run_bind, this, Result.andThen_ok, Sem.run_pure]
    · cases h
  · rename_i t y f hop
    split at h
    · rename_i z hz
      simp only [Option.map_eq_some_iff, Prod.mk.injEq] at h
      obtain ⟨u, hu, _, rfl⟩ := h
      simp [execOp, hop, opd_sound he hc hz, evFieldAddr_sound htt hu]
    · cases h
  · rename_i t y f hop
    split at h
    · rename_i z hz
      simp only [Option.map_eq_some_iff, Prod.mk.injEq] at h
      obtain ⟨u, hu, _, rfl⟩ := h
      simp [execOp, hop, opd_sound he hc hz, evField_sound htt hu]
    · cases h
  · rename_i t y ix hop
    split at h
    · rename_i u v hu hv
      simp [execOp, hop, opd_sound he hc hu, opd_sound he hc hv, evIndexAddr_sound htt h ho]
    · cases h
  · rename_i t y ix hop
    split at h
    · rename_i u v hu hv
      unfold evIndex at h
      split at h
      · rename_i s k n
        split at h
        · rename_i hti
          cases h
          have h0 : 0 ≤ n := ho _ (by simp)
          have h1 : n < (s.size : Int) := ho _ (by simp)
          have h2 : n.toNat < s.size := by omega
          have h3 : s[n.toNat]? = some (s.data.getD n.toNat 0) := by
            have h4 : n.toNat < s.data.size := h2
            rw [getElem?_pos s n.toNat h2]
            congr 1
            rw [Array.getD_eq_getD_getElem?, Array.getElem?_eq_getElem h4]
            rfl
          simp [execOp, hop, opd_sound he hc hu, opd_sound he hc hv, den, Instr.index, asIntOf, run_underlying ((htt _ _ hti).str rfl), h0, h3]
        · cases h
      · cases h
    · cases h
  · rename_i t y hop
    split at h
    · rename_i z hz
      simp [execOp, hop, opd_sound he hc hz, evLoad_sound htt hh h ho]
    · cases h
  · rename_i y i hop
    split at h
    · rename_i l hl
      simp only [Option.map_eq_some_iff, Prod.mk.injEq] at h
      obtain ⟨u, hu, _, rfl⟩ := h
      simp [execOp, hop, opd_sound he hc hl, den, Instr.extract, denL_get?, hu]
    · cases h
  · rename_i t parts hop
    split at h
    · rename_i l hl
      simp only [Option.map_eq_some_iff, Prod.mk.injEq] at h
      obtain ⟨u, hu, _, rfl⟩ := h
      have e := zip_den he hc hl
      have := evBuild_sound htt (parts := parts.map fun (i, x) => (i, a.eval x)) (by rw [Array.toList_map]; exact e) hu w
      simp only [execOp, hop, Sem.run_bind, this, Result.andThen_ok, Sem.run_pure]
    · cases h
  · rename_i s d y hop
    split at h
    · rename_i z hz
      simp [execOp, hop, opd_sound he hc hz, evConvH_sound htt hh h ho]
    · cases h
  · rename_i t y lo hi hop
    split at h
    · rename_i u l r hu hl hr
      have := evSlice_sound htt h ho w
      simp only [execOp, hop, opd_sound he hc hu, optOpd_sound he hc hl, optOpd_sound he hc hr, Option.map_none, Sem.run_bind, this, Result.andThen_ok, Sem.run_pure]
    · cases h
  · rename_i b args ats hop
    split at h
    · rename_i l hl
      simp only [Option.map_eq_some_iff, Prod.mk.injEq] at h
      obtain ⟨u, hu, _, rfl⟩ := h
      have e : args.map a.eval = (denL l).toArray := by
        apply Array.toList_inj.1
        rw [Array.toList_map]
        exact opds_sound he hc _ _ hl
      have := evBuiltin_sound htt hu o.type (args.map fun | .const _ => true | _ => false) w
      simp only [execOp, hop, resolve, e, Sem.run_bind, Sem.run_pure, Result.andThen_ok, invoke]
      exact this
    · cases h
  · rename_i f first cap hop
    split at h
    · rename_i l r hl hr
      cases h
      have e : first.map a.eval = (denL l).toArray := by
        apply Array.toList_inj.1
        rw [Array.toList_map]
        exact opds_sound he hc _ _ hl
      have e' : cap.map a.eval = (denL r).toArray := by
        apply Array.toList_inj.1
        rw [Array.toList_map]
        exact opds_sound he hc _ _ hr
      simp [execOp, hop, Instr.makeFunc, e, e', den]
    · cases h
  · rename_i t y hop
    split at h
    · rename_i z ti hz hl
      split at h
      · cases h
      rename_i hne
      cases h
      obtain ⟨d, h1, h2⟩ := (htt _ _ hl).under
      have : (Instr.makeInterface t (den z)).run P w = .ok (.iface t (den z)) w := by
        simp only [Instr.makeInterface, Sem.run_bind, run_underlying h1, Result.andThen_ok]
        cases d <;> first | rfl | (rw [← h2] at hne; exact absurd rfl hne)
      simp [execOp, hop, opd_sound he hc hz, this, den]
    · cases h
  · rename_i t y ix ok hop
    split at h
    · rename_i u v hu hv
      simp [execOp, hop, opd_sound he hc hu, opd_sound he hc hv, evLookup_sound htt hh h ho]
    · cases h
  · cases h

end Go.SX
