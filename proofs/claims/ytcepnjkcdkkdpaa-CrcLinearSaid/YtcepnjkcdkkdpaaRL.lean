/- The sum, as a plain function of bits: linear, one to one. -/
namespace Go.Crc
set_option linter.unusedVariables false
set_option linter.unusedSimpArgs false

def poly : BitVec 32 := 0x82f63b78#32
/-- One bit's step. -/
def f (r : BitVec 32) : BitVec 32 := (r >>> 1) ^^^ (if r.getLsbD 0 then poly else 0#32)
def fN : Nat → BitVec 32 → BitVec 32
  | 0, r => r
  | n + 1, r => f (fN n r)

theorem x4 {n : Nat} (a b c d : BitVec n) : (a ^^^ b) ^^^ (c ^^^ d) = (a ^^^ c) ^^^ (b ^^^ d) := by
  rw [BitVec.xor_assoc, ← BitVec.xor_assoc b c d, BitVec.xor_comm b c, BitVec.xor_assoc c b d, ← BitVec.xor_assoc]

theorem f_xor (a b : BitVec 32) : f (a ^^^ b) = f a ^^^ f b := by
  unfold f
  rw [x4, BitVec.ushiftRight_xor_distrib, BitVec.getLsbD_xor]
  congr 1
  cases a.getLsbD 0 <;> cases b.getLsbD 0 <;> simp

theorem f_zero : f 0#32 = 0#32 := by decide

theorem f_eq_zero {a : BitVec 32} (h : f a = 0#32) : a = 0#32 := by
  unfold f at h
  have h31 : (a >>> 1).getLsbD 31 = false := by simp
  have hb : a.getLsbD 0 = false := by
    cases hc : a.getLsbD 0 with
    | false => rfl
    | true =>
      rw [hc, if_pos rfl] at h
      have := congrArg (fun x : BitVec 32 => x.getLsbD 31) h
      simp only [BitVec.getLsbD_xor, h31] at this
      exact absurd this (by decide)
  rw [hb] at h
  simp only [Bool.false_eq_true, if_false, BitVec.xor_zero] at h
  apply BitVec.eq_of_getLsbD_eq
  intro i hi
  cases i with
  | zero => rw [hb]; simp
  | succ i =>
    have := congrArg (fun x : BitVec 32 => x.getLsbD i) h
    simp only [BitVec.getLsbD_ushiftRight] at this
    rw [Nat.add_comm] at this
    rw [this]; simp

theorem fN_xor (n : Nat) (a b : BitVec 32) : fN n (a ^^^ b) = fN n a ^^^ fN n b := by
  induction n with
  | zero => rfl
  | succ n ih => simp only [fN, ih, f_xor]
theorem fN_zero (n : Nat) : fN n 0#32 = 0#32 := by
  induction n with
  | zero => rfl
  | succ n ih => simp only [fN, ih, f_zero]
theorem fN_eq_zero {n : Nat} {a : BitVec 32} (h : fN n a = 0#32) : a = 0#32 := by
  induction n with
  | zero => exact h
  | succ n ih => exact ih (f_eq_zero h)
theorem fN_add (m n : Nat) (a : BitVec 32) : fN (m + n) a = fN n (fN m a) := by
  induction n with
  | zero => rfl
  | succ n ih => show f (fN (m + n) a) = _; rw [ih]; rfl

/-- Noughts at the low end fall out. -/
theorem fN_low {n : Nat} {a : BitVec 32} (h : ∀ i, i < n → a.getLsbD i = false) : fN n a = a >>> n := by
  induction n with
  | zero => simp [fN]
  | succ n ih =>
    rw [fN, ih fun i hi => h i (by omega)]
    unfold f
    have : (a >>> n).getLsbD 0 = false := by rw [BitVec.getLsbD_ushiftRight]; exact h n (by omega)
    rw [this]
    simp only [Bool.false_eq_true, if_false, BitVec.xor_zero]
    rw [← BitVec.shiftRight_add]

def zx (x : BitVec 8) : BitVec 32 := x.setWidth 32
def tab (x : BitVec 8) : BitVec 32 := fN 8 (zx x)
def step (r : BitVec 32) (x : BitVec 8) : BitVec 32 := (r >>> 8) ^^^ tab (r.setWidth 8 ^^^ x)

theorem step_eq (r : BitVec 32) (x : BitVec 8) : step r x = fN 8 (r ^^^ zx x) := by
  have e : r ^^^ zx x = ((r >>> 8) <<< 8) ^^^ zx (r.setWidth 8 ^^^ x) := by
    apply BitVec.eq_of_getLsbD_eq
    intro i hi
    simp only [zx, BitVec.getLsbD_xor, BitVec.getLsbD_setWidth, BitVec.getLsbD_shiftLeft, BitVec.getLsbD_ushiftRight]
    by_cases h : i < 8
    · simp [h, hi]
    · have : x.getLsbD i = false := BitVec.getLsbD_of_ge x i (by omega)
      simp [h, hi, this, show 8 + (i - 8) = i by omega]
  rw [e, fN_xor, fN_low]
  · unfold step tab
    congr 1
    apply BitVec.eq_of_getLsbD_eq
    intro i hi
    simp only [BitVec.getLsbD_ushiftRight, BitVec.getLsbD_shiftLeft]
    by_cases h : 8 + i < 32
    · simp [h]
    · have : r.getLsbD (8 + i) = false := BitVec.getLsbD_of_ge r _ (by omega)
      simp [this]
  · intro i hi
    simp only [BitVec.getLsbD_shiftLeft]
    simp [hi]

def go (r : BitVec 32) (g : Nat → BitVec 8) : Nat → BitVec 32
  | 0 => r
  | n + 1 => step (go r g n) (g n)

theorem go_congr {r : BitVec 32} {g g' : Nat → BitVec 8} {n : Nat} (h : ∀ j, j < n → g j = g' j) : go r g n = go r g' n := by
  induction n with
  | zero => rfl
  | succ n ih => simp only [go]; rw [ih fun j hj => h j (by omega), h n (by omega)]

/-! ### What differs in a burst -/
def ob (b : Bool) : BitVec 32 := if b then 1#32 else 0#32
theorem ob_bit (b : Bool) (i : Nat) : (ob b).getLsbD i = (b && decide (i = 0)) := by
  cases b
  · simp [ob]
  · simp [ob, BitVec.getLsbD_one]
def bitsW (e : Nat → Bool) : Nat → BitVec 32
  | 0 => 0#32
  | n + 1 => f (bitsW e n ^^^ ob (e n))

theorem byte_bits (d : BitVec 8) (r : BitVec 32) (e : Nat → Bool) : ∀ k, k ≤ 8 → ∀ s, (∀ q, q < k → e (s + q) = d.getLsbD q) → bitsW e s = r → bitsW e (s + k) = fN k (r ^^^ zx (d &&& BitVec.ofNat 8 (2 ^ k - 1))) := by
  intro k
  induction k with
  | zero => intro _ s _ hr; simp [fN, zx, hr]
  | succ k ih =>
    intro hk s he hr
    have h1 := ih (by omega) s (fun q hq => he q (by omega)) hr
    show f (bitsW e (s + k) ^^^ ob (e (s + k))) = f (fN k _)
    rw [h1, he k (by omega)]
    congr 1
    have e1 : r ^^^ zx (d &&& BitVec.ofNat 8 (2 ^ (k + 1) - 1)) = (r ^^^ zx (d &&& BitVec.ofNat 8 (2 ^ k - 1))) ^^^ (ob (d.getLsbD k) <<< k) := by
      apply BitVec.eq_of_getLsbD_eq
      intro i hi
      simp only [zx, BitVec.getLsbD_xor, BitVec.getLsbD_setWidth, BitVec.getLsbD_and, BitVec.getLsbD_shiftLeft, BitVec.getLsbD_ofNat, Nat.testBit_two_pow_sub_one]
      by_cases h8 : i < 8
      · rcases Nat.lt_trichotomy i k with h | h | h
        · simp [h, h8, hi, show i < k + 1 by omega]
        · subst h
          rw [ob_bit]
          simp [h8, hi]
        · have : (ob (d.getLsbD k)).getLsbD (i - k) = false := by
            rw [ob_bit]; simp; omega
          simp [this, show ¬ i < k by omega, show ¬ i < k + 1 by omega]
      · have h0 : d.getLsbD i = false := BitVec.getLsbD_of_ge d i (by omega)
        have : (ob (d.getLsbD k)).getLsbD (i - k) = false := by
          rw [ob_bit]; simp; omega
        simp [h0, this]
    rw [e1, fN_xor k (r ^^^ zx (d &&& BitVec.ofNat 8 (2 ^ k - 1))), fN_low (a := ob (d.getLsbD k) <<< k)]
    · congr 1
      apply BitVec.eq_of_getLsbD_eq
      intro i hi
      simp only [BitVec.getLsbD_ushiftRight, BitVec.getLsbD_shiftLeft]
      by_cases h0 : i = 0
      · subst h0
        simp [show k < 32 by omega]
      · have : (ob (d.getLsbD k)).getLsbD i = false := by rw [ob_bit]; simp [h0]
        simp [this]
    · intro i hi
      simp [BitVec.getLsbD_shiftLeft, hi]

theorem byte_bits8 (d : BitVec 8) (e : Nat → Bool) (s : Nat) (he : ∀ q, q < 8 → e (s + q) = d.getLsbD q) : bitsW e (s + 8) = fN 8 (bitsW e s ^^^ zx d) := by
  have := byte_bits d (bitsW e s) e 8 (Nat.le_refl _) s he rfl
  rw [this]
  have e2 : d &&& BitVec.ofNat 8 (2 ^ 8 - 1) = d := by
    apply BitVec.eq_of_getLsbD_eq
    intro i hi
    rw [BitVec.getLsbD_and, BitVec.getLsbD_ofNat, Nat.testBit_two_pow_sub_one]
    simp [hi]
  rw [e2]

theorem go_diff (r : BitVec 32) (g h : Nat → BitVec 8) (e : Nat → Bool) (n : Nat) (he : ∀ j, j < n → ∀ q, q < 8 → (h j).getLsbD q = ((g j).getLsbD q ^^ e (8 * j + q))) : go r h n = go r g n ^^^ bitsW e (8 * n) := by
  induction n with
  | zero => simp [go, bitsW]
  | succ n ih =>
    have ih := ih fun j hj => he j (by omega)
    rw [go, go, step_eq, step_eq, show 8 * (n + 1) = 8 * n + 8 by omega,
      byte_bits8 (g n ^^^ h n) e (8 * n) fun q hq => by rw [BitVec.getLsbD_xor, he n (by omega) q hq]; cases (g n).getLsbD q <;> simp, ih, ← fN_xor]
    congr 1
    have : zx (g n ^^^ h n) = zx (g n) ^^^ zx (h n) := by simp [zx]
    rw [this]
    have hz : zx (g n) ^^^ (zx (g n) ^^^ zx (h n)) = zx (h n) := by rw [← BitVec.xor_assoc, BitVec.xor_self, BitVec.zero_xor]
    generalize go r g n = a at *
    generalize bitsW e (8 * n) = b at *
    generalize zx (g n) = c at *
    generalize zx (h n) = d at *
    rw [x4, hz, BitVec.xor_assoc, BitVec.xor_comm b d, ← BitVec.xor_assoc]

/-- A burst's bits. -/
def burst (v : BitVec 32) (s : Nat) (k : Nat) : Bool := decide (s ≤ k) && v.getLsbD (k - s)

theorem burst_zero (v : BitVec 32) (s : Nat) : ∀ k, k ≤ s → bitsW (burst v s) k = 0#32
  | 0, _ => rfl
  | k + 1, h => by
    rw [bitsW, burst_zero v s k (by omega)]
    have : burst v s k = false := by simp [burst]; omega
    rw [this]; exact f_zero

theorem burst_in (v : BitVec 32) (s : Nat) : ∀ j, j ≤ 32 → bitsW (burst v s) (s + j) = fN j (v &&& BitVec.ofNat 32 (2 ^ j - 1))
  | 0, _ => by rw [Nat.add_zero, burst_zero v s s (Nat.le_refl _)]; simp [fN]
  | j + 1, h => by
    show f (bitsW (burst v s) (s + j) ^^^ ob (burst v s (s + j))) = f (fN j _)
    rw [burst_in v s j (by omega)]
    have hb : burst v s (s + j) = v.getLsbD j := by simp [burst]
    rw [hb]
    congr 1
    have e1 : v &&& BitVec.ofNat 32 (2 ^ (j + 1) - 1) = (v &&& BitVec.ofNat 32 (2 ^ j - 1)) ^^^ (ob (v.getLsbD j) <<< j) := by
      apply BitVec.eq_of_getLsbD_eq
      intro i hi
      simp only [BitVec.getLsbD_xor, BitVec.getLsbD_and, BitVec.getLsbD_shiftLeft, BitVec.getLsbD_ofNat, Nat.testBit_two_pow_sub_one]
      rcases Nat.lt_trichotomy i j with h | h | h
      · simp [h, hi, show i < j + 1 by omega]
      · subst h
        rw [ob_bit]
        simp [hi]
      · have : (ob (v.getLsbD j)).getLsbD (i - j) = false := by
          rw [ob_bit]; simp; omega
        simp [this, show ¬ i < j by omega, show ¬ i < j + 1 by omega]
    rw [e1, fN_xor]
    congr 1
    rw [fN_low]
    · apply BitVec.eq_of_getLsbD_eq
      intro i hi
      simp only [BitVec.getLsbD_ushiftRight, BitVec.getLsbD_shiftLeft]
      by_cases h0 : i = 0
      · subst h0
        simp [show j < 32 by omega]
      · have : (ob (v.getLsbD j)).getLsbD i = false := by rw [ob_bit]; simp [h0]
        simp [this]
    · intro i hi
      simp [BitVec.getLsbD_shiftLeft, hi]

theorem burst_out (v : BitVec 32) (s : Nat) : ∀ m, bitsW (burst v s) (s + 32 + m) = fN m (bitsW (burst v s) (s + 32))
  | 0 => rfl
  | m + 1 => by
    show f (bitsW (burst v s) (s + 32 + m) ^^^ ob (burst v s (s + 32 + m))) = f (fN m _)
    rw [burst_out v s m]
    have : burst v s (s + 32 + m) = false := by
      unfold burst
      rw [BitVec.getLsbD_of_ge v _ (by omega)]
      simp
    rw [this]
    simp [ob]

theorem burst_ne (v : BitVec 32) (hv : v.getLsbD 0 = true) (s n : Nat) (h : s < n) : bitsW (burst v s) n ≠ 0#32 := by
  have key : ∀ j, 1 ≤ j → j ≤ 32 → bitsW (burst v s) (s + j) ≠ 0#32 := by
    intro j h1 h2 hz
    rw [burst_in v s j h2] at hz
    have := congrArg (fun x : BitVec 32 => x.getLsbD 0) (fN_eq_zero hz)
    simp only [BitVec.getLsbD_and, BitVec.getLsbD_ofNat, Nat.testBit_two_pow_sub_one, hv] at this
    simp at this
    omega
  rcases Nat.lt_or_ge n (s + 32) with h1 | h1
  · have := key (n - s) (by omega) (by omega)
    rwa [show s + (n - s) = n by omega] at this
  · intro hz
    have := burst_out v s (n - (s + 32))
    rw [show s + 32 + (n - (s + 32)) = n by omega, hz] at this
    exact key 32 (by omega) (by omega) (fN_eq_zero this.symm)

theorem go_burst (r : BitVec 32) (g h : Nat → BitVec 8) (v : BitVec 32) (hv : v.getLsbD 0 = true) (s n : Nat) (hs : s < 8 * n) (he : ∀ j, j < n → ∀ q, q < 8 → (h j).getLsbD q = ((g j).getLsbD q ^^ burst v s (8 * j + q))) : go r g n ≠ go r h n := by
  rw [go_diff r g h _ n he]
  intro e
  apply burst_ne v hv s (8 * n) hs
  have := congrArg (go r g n ^^^ ·) e
  simp only [BitVec.xor_self, ← BitVec.xor_assoc, BitVec.zero_xor] at this
  exact this.symm
end Go.Crc
