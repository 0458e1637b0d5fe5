/- Matrices: what each bit becomes. -/
import Derived.Test.YtcepnjkcdkkdpaaRQ
namespace Go.Proofs
set_option linter.unusedVariables false
set_option linter.unusedSimpArgs false
open Go Go.SX Go.RowKit Go.Crc

def xorN (M : Nat → BitVec 32) (r : BitVec 32) : Nat → BitVec 32
  | 0 => 0#32
  | k + 1 => xorN M r k ^^^ (if r.getLsbD k then M k else 0#32)

theorem xorN_rest (M : Nat → BitVec 32) (r : BitVec 32) (k : Nat) (h : r >>> k = 0#32) : ∀ d, xorN M r (k + d) = xorN M r k
  | 0 => rfl
  | d + 1 => by
    show xorN M r (k + d) ^^^ (if r.getLsbD (k + d) then M (k + d) else 0#32) = _
    rw [xorN_rest M r k h d]
    have : r.getLsbD (k + d) = false := by
      have := congrArg (fun x : BitVec 32 => x.getLsbD d) h
      simp only [BitVec.getLsbD_ushiftRight] at this
      rw [this]; simp
    rw [this]; simp

theorem xorN_end (M : Nat → BitVec 32) (r : BitVec 32) (k : Nat) (hk : k ≤ 32) (h : r >>> k = 0#32) : xorN M r k = xorN M r 32 := by
  have := xorN_rest M r k h (32 - k)
  rw [show k + (32 - k) = 32 by omega] at this
  exact this.symm

theorem shift_32 (r : BitVec 32) : r >>> 32 = 0#32 := by
  apply BitVec.eq_of_getLsbD_eq
  intro i hi
  rw [BitVec.getLsbD_ushiftRight, BitVec.getLsbD_of_ge r _ (by omega)]; simp

/-- What a one at place i becomes, in n steps. -/
def base (n : Nat) (i : Nat) : BitVec 32 := fN n (1#32 <<< i)

theorem xorN_low (n : Nat) (r : BitVec 32) : ∀ k, k ≤ 32 → xorN (base n) r k = fN n (r &&& BitVec.ofNat 32 (2 ^ k - 1))
  | 0, _ => by simp [xorN, fN_zero]
  | k + 1, h => by
    rw [xorN, xorN_low n r k (by omega)]
    have e1 : r &&& BitVec.ofNat 32 (2 ^ (k + 1) - 1) = (r &&& BitVec.ofNat 32 (2 ^ k - 1)) ^^^ (if r.getLsbD k then 1#32 <<< k else 0#32) := by
      apply BitVec.eq_of_getLsbD_eq
      intro i hi
      rw [BitVec.getLsbD_xor, BitVec.getLsbD_and, BitVec.getLsbD_and, BitVec.getLsbD_ofNat, BitVec.getLsbD_ofNat, Nat.testBit_two_pow_sub_one, Nat.testBit_two_pow_sub_one]
      have e2 : (if r.getLsbD k then 1#32 <<< k else 0#32).getLsbD i = (r.getLsbD k && decide (i = k)) := by
        cases r.getLsbD k
        · simp
        · simp only [if_true, BitVec.getLsbD_shiftLeft, BitVec.getLsbD_one, Bool.true_and]
          by_cases h1 : i = k
          · subst h1; simp [hi]
          · by_cases h2 : i < k
            · simp [h1, h2]
            · simp [h1, h2, show i - k ≠ 0 by omega]
      rw [e2]
      rcases Nat.lt_trichotomy i k with h1 | h1 | h1
      · simp [hi, h1, show i < k + 1 by omega, show i ≠ k by omega]
      · subst h1; simp [hi]
      · simp [show ¬ i < k by omega, show ¬ i < k + 1 by omega, show i ≠ k by omega]
    rw [e1, fN_xor]
    congr 1
    cases r.getLsbD k
    · simp [fN_zero]
    · simp [base]

theorem xorN_base (n : Nat) (r : BitVec 32) : xorN (base n) r 32 = fN n r := by
  rw [xorN_low n r 32 (Nat.le_refl _)]
  congr 1
  apply BitVec.eq_of_getLsbD_eq
  intro i hi
  rw [BitVec.getLsbD_and, BitVec.getLsbD_ofNat, Nat.testBit_two_pow_sub_one]
  simp [hi]

theorem base_step (i : Nat) (h : i < 32) : ((1#32 <<< i) >>> 8) ^^^ tab ((1#32 <<< i).setWidth 8) = base 8 i := by
  have := step_eq (1#32 <<< i) 0#8
  unfold Crc.step at this
  simp only [BitVec.xor_zero] at this
  rw [this]
  unfold base
  congr 1
  have : zx 0#8 = 0#32 := by decide
  rw [this, BitVec.xor_zero]

theorem base_twice (n i : Nat) : xorN (base n) (base n i) 32 = base (2 * n) i := by
  rw [xorN_base]
  unfold base
  rw [← fN_add]
  congr 1; omega

theorem shl32 (i : Nat) (h : i < 32) : IntKind.u32.wrap (2 ^ min i IntKind.u32.bits) = rv (1#32 <<< i) := by
  have hm : min i IntKind.u32.bits = i := by
    show min i 32 = i
    omega
  rw [hm]
  have : ((2 : Int) ^ i) = ((2 ^ i : Nat) : Int) := by simp
  rw [this, wrap32 _ (Nat.pow_lt_pow_right (by omega) h)]
  unfold rv
  rw [BitVec.toNat_shiftLeft]
  have h2 : 2 ^ i < 2 ^ 32 := Nat.pow_lt_pow_right (by omega) h
  simp [Nat.shiftLeft_eq, Nat.mod_eq_of_lt h2]

/-! ### A matrix' cells -/
def matC (M : Nat → BitVec 32) : List SV := (List.range 32).map fun i => .v (.int .u32 (rv (M i)))
theorem mat_len (M : Nat → BitVec 32) : (matC M).length = 32 := by simp [matC]
theorem mat_at (M : Nat → BitVec 32) (k : Nat) (h : k < 32) : (matC M)[k]? = some (.v (.int .u32 (rv (M k)))) := by simp [matC, h]
theorem mat_load (M : Nat → BitVec 32) (k : Nat) (h : k < 32) : ((matC M).drop k).take 1 = [.v (.int .u32 (rv (M k)))] := take_at (mat_at M k h)
theorem mat_set (M : Nat → BitVec 32) (k : Nat) (h : k < 32) (x : BitVec 32) : (matC M).take k ++ .v (.int .u32 (rv x)) :: (matC M).drop (k + 1) = matC (fun i => if i = k then x else M i) := by
  have e : spliceL (matC M) k [.v (.int .u32 (rv x))] = (matC M).set k (.v (.int .u32 (rv x))) := splice_at (by rw [mat_len]; exact h)
  refine Eq.trans e ?_
  apply List.ext_getElem?
  intro i
  rw [List.getElem?_set]
  simp only [mat_len]
  by_cases hi : i < 32
  · rw [mat_at _ i hi, mat_at _ i hi]
    by_cases hk : i = k
    · subst hk; simp [h]
    · simp [hk, Ne.symm hk]
  · rw [if_neg (by omega), List.getElem?_eq_none (by rw [mat_len]; omega), List.getElem?_eq_none (by rw [mat_len]; omega)]
theorem mat_congr {w : World} {b : Nat} {M M' : Nat → BitVec 32} (h : (SO.cells (matC M) 60).rep w b) (hM : ∀ i, i < 32 → M i = M' i) : (SO.cells (matC M') 60).rep w b := by
  have : matC M = matC M' := List.map_congr_left fun i hi => by rw [hM i (List.mem_range.1 hi)]
  rw [← this]; exact h

/-! ### Going on -/
theorem go_lin (r : BitVec 32) (g : Nat → BitVec 8) (n : Nat) : go r g n = fN (8 * n) r ^^^ go 0#32 g n := by
  induction n with
  | zero => simp [go, fN]
  | succ n ih =>
    rw [go, step_eq, ih, go, step_eq, show 8 * (n + 1) = 8 * n + 8 by omega, fN_add, BitVec.xor_assoc, fN_xor]

theorem go_cat (r : BitVec 32) (g h : Nat → BitVec 8) (n : Nat) : ∀ m, go r (fun j => if j < n then g j else h (j - n)) (n + m) = go (go r g n) h m
  | 0 => by
    rw [Nat.add_zero, go]
    exact go_congr fun j hj => if_pos hj
  | m + 1 => by
    show Crc.step (go r _ (n + m)) _ = _
    rw [go_cat r g h n m, go]
    simp [show ¬ n + m < n by omega]

/-- The sum of a whole from its parts' sums. -/
theorem join_law (g h : Nat → BitVec 8) (n m : Nat) : fN (8 * m) (~~~ go ones g n) ^^^ (~~~ go ones h m) = ~~~ go (go ones g n) h m := by
  have e : ∀ x : BitVec 32, ~~~ x = ones ^^^ x := fun x => by unfold ones; rw [BitVec.allOnes_xor]
  rw [e, e, e, fN_xor, go_lin (go ones g n) h m, go_lin ones h m]
  generalize fN (8 * m) ones = A
  generalize fN (8 * m) (go ones g n) = B
  generalize go 0#32 h m = C
  rw [BitVec.xor_comm ones (A ^^^ C), x4, BitVec.xor_comm ones (B ^^^ C)]
  have : A ^^^ (A ^^^ C) = C := by rw [← BitVec.xor_assoc, BitVec.xor_self, BitVec.zero_xor]
  rw [this, BitVec.xor_comm C, BitVec.xor_assoc, BitVec.xor_comm ones C, ← BitVec.xor_assoc]
end Go.Proofs
