/- Registers and the table's cells as values. -/
import Derived.Test.YtcepnjkcdkkdpaaRT
import Derived.Test.YtcepnjkcdkkdpaaRL
namespace Go.Proofs
set_option linter.unusedVariables false
set_option linter.unusedSimpArgs false
open Go Go.SX Go.RowKit Go.Crc

def r32 (r : BitVec 32) : SV := .v (.int .u32 (r.toNat : Int))

theorem of32 (a : BitVec 32) : BitVec.ofInt 32 (a.toNat : Int) = a := by simp
theorem of8 (a : BitVec 8) : BitVec.ofInt 8 (a.toNat : Int) = a := by simp
theorem wrap32 (n : Nat) (h : n < 2 ^ 32) : IntKind.u32.wrap (n : Int) = n := by
  simp only [IntKind.wrap, IntKind.bits, IntKind.signed]
  simp
  omega
theorem wrap8 (n : Nat) (h : n < 2 ^ 8) : IntKind.u8.wrap (n : Int) = n := by
  simp only [IntKind.wrap, IntKind.bits, IntKind.signed]
  simp
  omega

theorem bx32 (a b : BitVec 32) : bitv .xor .u32 (a.toNat : Int) (b.toNat : Int) = ((a ^^^ b).toNat : Int) := by
  show IntKind.u32.wrap ((BitVec.ofInt 32 (a.toNat : Int) ^^^ BitVec.ofInt 32 (b.toNat : Int)).toNat : Int) = _
  rw [of32, of32]
  exact wrap32 _ (a ^^^ b).isLt
theorem ba32 (a b : BitVec 32) : bitv .and .u32 (a.toNat : Int) (b.toNat : Int) = ((a &&& b).toNat : Int) := by
  show IntKind.u32.wrap ((BitVec.ofInt 32 (a.toNat : Int) &&& BitVec.ofInt 32 (b.toNat : Int)).toNat : Int) = _
  rw [of32, of32]
  exact wrap32 _ (a &&& b).isLt
theorem bo32 (a b : BitVec 32) : bitv .or .u32 (a.toNat : Int) (b.toNat : Int) = ((a ||| b).toNat : Int) := by
  show IntKind.u32.wrap ((BitVec.ofInt 32 (a.toNat : Int) ||| BitVec.ofInt 32 (b.toNat : Int)).toNat : Int) = _
  rw [of32, of32]
  exact wrap32 _ (a ||| b).isLt
theorem bx8 (a b : BitVec 8) : bitv .xor .u8 (a.toNat : Int) (b.toNat : Int) = ((a ^^^ b).toNat : Int) := by
  show IntKind.u8.wrap ((BitVec.ofInt 8 (a.toNat : Int) ^^^ BitVec.ofInt 8 (b.toNat : Int)).toNat : Int) = _
  rw [of8, of8]
  exact wrap8 _ (a ^^^ b).isLt
theorem bnot32 (a : BitVec 32) : bitv .xor .u32 4294967295 (a.toNat : Int) = ((~~~a).toNat : Int) := by
  have h := bx32 (BitVec.allOnes 32) a
  rw [BitVec.allOnes_xor] at h
  rw [← h]; rfl
theorem sh32 (a : BitVec 32) (n : Nat) : (a.toNat : Int).fdiv ((2 ^ n : Nat) : Int) = ((a >>> n).toNat : Int) := by
  rw [BitVec.toNat_ushiftRight, Nat.shiftRight_eq_div_pow, ← Int.ofNat_fdiv]
theorem lo8 (a : BitVec 32) : IntKind.u8.wrap (a.toNat : Int) = ((a.setWidth 8).toNat : Int) := by
  simp only [IntKind.wrap, IntKind.bits, IntKind.signed]
  simp
theorem zx32 (a : BitVec 8) : IntKind.u32.wrap (a.toNat : Int) = ((zx a).toNat : Int) := by
  have := a.isLt
  rw [wrap32 _ (by omega)]
  simp [zx]
  omega
theorem nat32 (k : Nat) : IntKind.u32.wrap (k : Int) = ((BitVec.ofNat 32 k).toNat : Int) := by
  simp only [IntKind.wrap, IntKind.bits, IntKind.signed]
  simp
theorem f_val (r : BitVec 32) : bitv .xor .u32 ((r.toNat : Int).fdiv (2 ^ min 1 IntKind.u32.bits)) (bitv .and .u32 2197175160 (IntKind.u32.wrap (-bitv .and .u32 (r.toNat : Int) 1))) = ((f r).toNat : Int) := by
  have h1 : bitv .and .u32 (r.toNat : Int) 1 = ((r &&& 1#32).toNat : Int) := ba32 r 1#32
  have h2 := sh32 r 1
  have h3 : bitv .and .u32 2197175160 (IntKind.u32.wrap (-bitv .and .u32 (r.toNat : Int) 1)) = ((if r.getLsbD 0 then poly else 0#32).toNat : Int) := by
    rw [h1]
    have hm : r &&& 1#32 = if r.getLsbD 0 then 1#32 else 0#32 := by
      apply BitVec.eq_of_getLsbD_eq
      intro i hi
      rw [BitVec.getLsbD_and]
      by_cases h0 : i = 0
      · subst h0
        cases hr : r.getLsbD 0 <;> rfl
      · cases r.getLsbD 0 <;> simp [h0, BitVec.getLsbD_one]
    rw [hm]
    cases r.getLsbD 0 <;> decide
  rw [h3]
  have h4 : (r.toNat : Int).fdiv (2 ^ min 1 IntKind.u32.bits) = ((r >>> 1).toNat : Int) := h2
  rw [h4, bx32]; rfl

/-! ### Their values -/
def rv (r : BitVec 32) : Int := (r.toNat : Int)
def bv (x : BitVec 8) : Int := (x.toNat : Int)
theorem bv_in (x : BitVec 8) : 0 ≤ bv x ∧ bv x < 256 := by
  have := x.isLt
  unfold bv
  omega
theorem rv_in (x : BitVec 32) : 0 ≤ rv x ∧ rv x < 4294967296 := by
  have := x.isLt
  unfold rv
  omega
theorem rv_inj {a b : BitVec 32} (h : rv a = rv b) : a = b := BitVec.eq_of_toNat_eq (by unfold rv at h; omega)
theorem of_rv {x : Int} (h : 0 ≤ x ∧ x < 4294967296) : ∃ r : BitVec 32, x = rv r := ⟨BitVec.ofNat 32 x.toNat, by simp [rv]; omega⟩
theorem of_bv {x : Int} (h : 0 ≤ x ∧ x < 256) : ∃ r : BitVec 8, x = bv r := ⟨BitVec.ofNat 8 x.toNat, by simp [bv]; omega⟩
theorem vx32 (a b : BitVec 32) : bitv .xor .u32 (rv a) (rv b) = rv (a ^^^ b) := bx32 a b
theorem va32 (a b : BitVec 32) : bitv .and .u32 (rv a) (rv b) = rv (a &&& b) := ba32 a b
theorem va1 (a : BitVec 32) : bitv .and .u32 (rv a) 1 = rv (a &&& 1#32) := ba32 a 1#32
theorem vo1 (a : BitVec 32) : bitv .or .u32 (rv a) 1 = rv (a ||| 1#32) := bo32 a 1#32
theorem vx8 (a b : BitVec 8) : bitv .xor .u8 (bv a) (bv b) = bv (a ^^^ b) := bx8 a b
theorem vnot (a : BitVec 32) : bitv .xor .u32 4294967295 (rv a) = rv (~~~a) := bnot32 a
theorem vx1 (a : BitVec 32) : bitv .xor .u32 (rv a) 4294967295 = rv (~~~a) := by
  have h := bx32 a (BitVec.allOnes 32)
  rw [BitVec.xor_allOnes] at h
  exact h
theorem vsh (a : BitVec 32) (n : Nat) (h : n ≤ 32) : (rv a).fdiv (2 ^ min n IntKind.u32.bits) = rv (a >>> n) := by
  rw [show min n IntKind.u32.bits = n from Nat.min_eq_left h]
  exact sh32 a n
theorem vlo (a : BitVec 32) : IntKind.u8.wrap (rv a) = bv (a.setWidth 8) := lo8 a
theorem vzx (a : BitVec 8) : IntKind.u32.wrap (bv a) = rv (zx a) := zx32 a
theorem vnat (k : Nat) : IntKind.u32.wrap (k : Int) = rv (BitVec.ofNat 32 k) := nat32 k
theorem vf (r : BitVec 32) : bitv .xor .u32 ((rv r).fdiv (2 ^ min 1 IntKind.u32.bits)) (bitv .and .u32 2197175160 (IntKind.u32.wrap (-bitv .and .u32 (rv r) 1))) = rv (f r) := f_val r


/-! ### The table's cells -/
def tabC (d s : Int) (T : Nat → Int) (u : Int) : List SV := .v (.int .u32 d) :: .v (.int .i32 s) :: .v (.int .u32 0) :: (((List.range 256).map fun i => .v (.int .u32 (T i))) ++ [.v (.int .i64 u)])

theorem tab_len (d s : Int) (T : Nat → Int) (u : Int) : (tabC d s T u).length = 260 := by simp [tabC]
theorem tab_at (d s : Int) (T : Nat → Int) (u : Int) (k : Nat) (h : k < 256) : (tabC d s T u)[3 + k]? = some (.v (.int .u32 (T k))) := by
  rw [Nat.add_comm]
  simp [tabC, List.getElem?_append_left, h]
theorem tab_used (d s : Int) (T : Nat → Int) (u : Int) : (tabC d s T u)[259]? = some (.v (.int .i64 u)) := by
  simp [tabC]
theorem take_at {l : List SV} {n : Nat} {x : SV} (h : l[n]? = some x) : (l.drop n).take 1 = [x] := by
  obtain ⟨h1, h2⟩ := List.getElem?_eq_some_iff.1 h
  rw [List.drop_eq_getElem_cons h1, h2]; rfl
theorem tab_load (d s : Int) (T : Nat → Int) (u : Int) (y : BitVec 8) : ((tabC d s T u).drop (3 + (bv y).toNat)).take 1 = [.v (.int .u32 (T (bv y).toNat))] := take_at (tab_at _ _ _ _ _ (by simp [bv]; exact y.isLt))
theorem tab_set (d s : Int) (T : Nat → Int) (u : Int) (k : Nat) (h : k < 256) (x : Int) : (tabC d s T u).set (3 + k) (.v (.int .u32 x)) = tabC d s (fun i => if i = k then x else T i) u := by
  apply List.ext_getElem?
  intro i
  rw [List.getElem?_set]
  simp only [tab_len]
  by_cases hi : i < 3
  · rw [if_neg (by omega)]
    rcases i with _ | _ | _ | i
    · rfl
    · rfl
    · rfl
    · omega
  · by_cases h2 : i < 259
    · obtain ⟨j, rfl⟩ : ∃ j, i = 3 + j := ⟨i - 3, by omega⟩
      rw [tab_at _ _ _ _ j (by omega), tab_at _ _ _ _ j (by omega)]
      by_cases hj : j = k
      · subst hj; simp; omega
      · rw [if_neg (by omega), if_neg hj]
    · rw [if_neg (by omega)]
      by_cases h3 : i = 259
      · subst h3; rw [tab_used, tab_used]
      · rw [List.getElem?_eq_none (by rw [tab_len]; omega), List.getElem?_eq_none (by rw [tab_len]; omega)]
theorem tab_setu (d s : Int) (T : Nat → Int) (u x : Int) : (tabC d s T u).set 259 (.v (.int .i64 x)) = tabC d s T x := by
  simp [tabC, List.set_append]
theorem splice_at {l : List SV} {n : Nat} {x : SV} (h : n < l.length) : spliceL l n [x] = l.set n x := by
  simp [spliceL, List.set_eq_take_append_cons_drop, h]
theorem tab_splice (d s : Int) (T : Nat → Int) (u : Int) (k : Nat) (h : k < 256) (x : Int) : spliceL (tabC d s T u) (3 + k) [.v (.int .u32 x)] = tabC d s (fun i => if i = k then x else T i) u := by
  rw [splice_at (by rw [tab_len]; omega), tab_set _ _ _ _ _ h]

theorem tab_splice' (d s : Int) (T : Nat → Int) (u : Int) (k : Nat) (h : k < 256) (x : Int) : (tabC d s T u).take (3 + k) ++ .v (.int .u32 x) :: (tabC d s T u).drop (3 + k + 1) = tabC d s (fun i => if i = k then x else T i) u := tab_splice d s T u k h x

/-- The table as it should be. -/
def tabI (i : Nat) : Int := rv (tab (BitVec.ofNat 8 i))
def fillI (T : Nat → Int) (k : Nat) (i : Nat) : Int := if i < k then tabI i else T i
theorem zx_nat (k : Nat) (h : k < 256) : zx (BitVec.ofNat 8 k) = BitVec.ofNat 32 k := by
  apply BitVec.eq_of_toNat_eq
  simp [zx]; omega
theorem tabI_eq (k : Nat) (h : k < 256) : rv (fN 8 (BitVec.ofNat 32 k)) = tabI k := by
  rw [← zx_nat k h]; rfl
theorem tab_at8 (y : BitVec 8) : tabI (bv y).toNat = rv (tab y) := by simp [tabI, bv]
end Go.Proofs
