/-
  Plain: what Judge computes, and that a bent history is told at its place. No program in sight.
-/
import Derived.Test.YtajppkjbmiemhaaSxB
namespace Go.Hist
set_option linter.unusedVariables false
set_option linter.unusedSimpArgs false
set_option linter.unusedSectionVars false
open Go Go.SX

structure HEv where
  at_ : Int
  lba : Int
  rd : Bool
  ver : Int
  by_ : Int

def evRow (e : HEv) : List SV := [.v (.int .i64 e.at_), .v (.int .i64 e.lba), .v (.bool e.rd), .v (.int .i64 e.ver), .v (.int .u8 e.by_)]

def zeroEv : HEv := ⟨0, 0, false, 0, 0⟩

abbrev M := Int → Option (HEv × Int)
def cur (m : M) (e : HEv) : HEv × Int := (m e.lba).getD (zeroEv, e.at_)
def okE (m : M) (e : HEv) : Bool := decide ((cur m e).2 ≤ e.at_) && (if e.rd then decide (e.ver = (cur m e).1.ver) && decide (e.by_ = (cur m e).1.by_) else decide ((cur m e).1.ver < e.ver))
def nxt (m : M) (e : HEv) : M := fun x => if x = e.lba then some ((if e.rd then (cur m e).1 else e), e.at_) else m x
def stAt (f : Nat → HEv) : Nat → M
  | 0 => fun _ => none
  | k + 1 => nxt (stAt f k) (f k)
def okAt (f : Nat → HEv) (k : Nat) : Bool := okE (stAt f k) (f k)

theorem stAt_congr {f g : Nat → HEv} : ∀ (k : Nat), (∀ j, j < k → f j = g j) → stAt f k = stAt g k
  | 0, _ => rfl
  | k + 1, h => by
    simp only [stAt]
    rw [stAt_congr k (fun j hj => h j (by omega)), h k (by omega)]

theorem okAt_congr {f g : Nat → HEv} {k : Nat} (h : ∀ j, j ≤ k → f j = g j) : okAt f k = okAt g k := by
  unfold okAt
  rw [stAt_congr k (fun j hj => h j (by omega)), h k (Nat.le_refl _)]

theorem ver_nonneg {f : Nat → HEv} : ∀ (k : Nat), (∀ j, j < k → okAt f j = true) → ∀ x p, stAt f k x = some p → 0 ≤ p.1.ver
  | 0, _, x, p, h => by simp [stAt] at h
  | k + 1, hok, x, p, h => by
    have ih := ver_nonneg k (fun j hj => hok j (by omega))
    have hk := hok k (by omega)
    have hcur : 0 ≤ (cur (stAt f k) (f k)).1.ver := by
      unfold cur
      cases hc : stAt f k (f k).lba with
      | none => simp [zeroEv]
      | some q => simpa using ih _ q hc
    simp only [stAt, nxt] at h
    split at h
    · cases h
      cases hr : (f k).rd with
      | true => simpa [hr] using hcur
      | false =>
        simp only [okAt, okE, hr, Bool.and_eq_true, decide_eq_true_eq, Bool.false_eq_true, if_false] at hk
        simp only [Bool.false_eq_true, if_false]
        omega
    · exact ih x p h

def upd (f : Nat → HEv) (i : Nat) (e : HEv) : Nat → HEv := fun j => if j = i then e else f j

theorem okAt_upd_lt {f : Nat → HEv} {i : Nat} {e : HEv} {j : Nat} (h : j < i) : okAt (upd f i e) j = okAt f j :=
  okAt_congr fun q hq => by simp only [upd]; rw [if_neg (by omega)]

theorem stAt_upd {f : Nat → HEv} {i : Nat} {e : HEv} : stAt (upd f i e) i = stAt f i :=
  stAt_congr i fun q hq => by simp only [upd]; rw [if_neg (by omega)]

theorem okAt_upd {f : Nat → HEv} {i : Nat} {e : HEv} : okAt (upd f i e) i = okE (stAt f i) e := by
  unfold okAt
  rw [stAt_upd]
  simp [upd]

/-- A write of an elder version. -/
theorem bend_write {f : Nat → HEv} {n i : Nat} {e : HEv} (hok : ∀ j, j < n → okAt f j = true) (hi : i < n) (h1 : e.lba = (f i).lba) (h2 : e.rd = false) (h3 : e.ver = 0) : okAt (upd f i e) i = false := by
  rw [okAt_upd]
  have h := ver_nonneg i (fun j hj => hok j (by omega))
  have hc : 0 ≤ (cur (stAt f i) e).1.ver := by
    unfold cur
    cases hc : stAt f i e.lba with
    | none => simp [zeroEv]
    | some q => simpa using h _ q hc
  simp only [okE, h2, h3, Bool.false_eq_true, if_false, Bool.and_eq_false_iff, decide_eq_false_iff_not]
  right; omega

theorem cur_same {m : M} {e e' : HEv} (h1 : e'.lba = e.lba) (h2 : e'.at_ = e.at_) : cur m e' = cur m e := by simp only [cur, h1, h2]

/-- A read of another version, or byte. -/
theorem bend_read {f : Nat → HEv} {n i : Nat} {e : HEv} (hok : ∀ j, j < n → okAt f j = true) (hi : i < n) (hr : (f i).rd = true) (h0 : e.rd = true) (h1 : e.lba = (f i).lba) (h2 : e.at_ = (f i).at_)
    (hv : e.ver ≠ (f i).ver ∨ e.by_ ≠ (f i).by_) : okAt (upd f i e) i = false := by
  rw [okAt_upd]
  have h := hok i hi
  simp only [okAt, okE, hr, if_true, Bool.and_eq_true, decide_eq_true_eq] at h
  simp only [okE, h0, if_true, Bool.and_eq_false_iff, decide_eq_false_iff_not, cur_same h1 h2]
  right
  rcases hv with hv | hv
  · left; intro e'; exact hv (e'.trans h.2.1.symm)
  · right; intro e'; exact hv (e'.trans h.2.2.symm)

/-- What Judge answers. -/
def JPost (f : Nat → HEv) (n : Nat) (w : World) (e : Ending) (w' : World) : Prop :=
  ∃ (k : Nat) (ok : Bool), e = .returned (.tuple #[.int .i64 k, .bool ok]) ∧ RowKit.Below w.heap.size w w' ∧ (ok = true → k = n ∧ ∀ j, j < n → okAt f j = true) ∧ (ok = false → k < n ∧ okAt f k = false ∧ ∀ j, j < k → okAt f j = true)

end Go.Hist
