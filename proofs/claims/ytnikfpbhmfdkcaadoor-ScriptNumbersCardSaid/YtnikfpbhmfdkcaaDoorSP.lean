/- Script: what is written and read, in plain Lean. -/
import Derived.Lib.SplitLaws
namespace Go.Script
set_option linter.unusedVariables false
set_option linter.unusedSimpArgs false
set_option linter.unusedSectionVars false
open Go.Lib

abbrev L8 := List UInt8
def B (l : L8) : ByteArray := ⟨l.toArray⟩
theorem B_inj {a b : L8} (h : B a = B b) : a = b := by
  have := congrArg (fun x : ByteArray => x.data.toList) h
  simpa [B] using this
theorem B_data (l : L8) : (B l).data.toList = l := by simp [B]
theorem B_size (l : L8) : (B l).size = l.length := by simp [B, ByteArray.size]
theorem B_of (s : ByteArray) : B s.data.toList = s := by simp [B]

/-! ### Words -/
def words : L8 → List L8
  | [] => [[]]
  | c :: l => if c = 32 then [] :: words l else match words l with
    | [] => [[c]]
    | x :: r => (c :: x) :: r

theorem words_ne (l : L8) : words l ≠ [] := by
  cases l with
  | nil => simp [words]
  | cons c l =>
    unfold words
    split
    · simp
    · split <;> simp

theorem splitK_words : ∀ l : L8, splitK [32] 0 (count l [32]) l = words l
  | [] => by
    rw [count_miss (by simp [index])]
    rfl
  | c :: l => by
    have ih := splitK_words l
    by_cases h : c = 32
    · subst h
      have hix : index ((32 : UInt8) :: l) [32] = 0 := by rw [index]; simp [List.isPrefixOf]
      rw [count_cons_eq, Nat.add_comm]
      unfold splitK
      rw [hix]
      simp [words, ih]
    · have hp : ([32] : List UInt8).isPrefixOf (c :: l) = false := by simp [List.isPrefixOf]; exact fun e => h e.symm
      have hix : index (c :: l) [32] = if index l [32] == -1 then -1 else index l [32] + 1 := by rw [index, hp]; simp
      rw [count_cons_ne c 32 l h]
      by_cases hm : index l [32] = -1
      · rw [count_miss hm] at ih ⊢
        simp only [splitK] at ih ⊢
        unfold words
        rw [if_neg h, ← ih]
      · have hge := index_ge l [32]
        obtain ⟨j, hj⟩ : ∃ j : Nat, index l [32] = j := ⟨(index l [32]).toNat, by omega⟩
        have hix' : index (c :: l) [32] = ((j + 1 : Nat) : Int) := by rw [hix, if_neg (fun e => hm (beq_iff_eq.1 e)), hj]; omega
        rw [count_hit (by simp) hj] at ih ⊢
        rw [Nat.add_comm] at ih ⊢
        unfold splitK at ih ⊢
        rw [hix', if_neg (by simp; omega)]
        rw [hj, if_neg (by simp)] at ih
        unfold words
        rw [if_neg h, ← ih]
        simp

theorem words_plain : ∀ (w : L8), (32 : UInt8) ∉ w → words w = [w]
  | [], _ => rfl
  | c :: l, h => by
    simp only [List.mem_cons, not_or] at h
    unfold words
    rw [if_neg (fun e => h.1 e.symm), words_plain l h.2]
theorem words_cons : ∀ (w r : L8), (32 : UInt8) ∉ w → words (w ++ 32 :: r) = w :: words r
  | [], r, _ => by simp [words]
  | c :: l, r, h => by
    simp only [List.mem_cons, not_or] at h
    rw [List.cons_append]
    rw [words, if_neg (fun e => h.1 e.symm), words_cons l r h.2]

/-! ### Numbers -/
def isDig (c : UInt8) : Bool := 48 ≤ c.toNat && c.toNat ≤ 57
def valL (l : L8) : Nat := l.foldl (fun n c => n * 10 + (c.toNat - 48)) 0
def numBad (l : L8) : Bool := l.length == 0 || decide (13 < l.length) || (decide (1 < l.length) && l.getD 0 0 == 48)
def numL (l : L8) : Option Nat := if numBad l then none else if l.all isDig then (if valL l ≤ 1000000000000 then some (valL l) else none) else none

def dig (n : Nat) : UInt8 := UInt8.ofNat (48 + n)
theorem dig_toNat {n : Nat} (h : n < 10) : (dig n).toNat = 48 + n := by
  unfold dig
  rw [UInt8.toNat_ofNat']
  omega
def digs (n : Nat) : L8 := if n < 10 then [dig n] else digs (n / 10) ++ [dig (n % 10)]
theorem digs_lt {n : Nat} (h : n < 10) : digs n = [dig n] := by rw [digs, if_pos h]
theorem digs_ge {n : Nat} (h : ¬ n < 10) : digs n = digs (n / 10) ++ [dig (n % 10)] := by rw [digs, if_neg h]

theorem valL_snoc (l : L8) (c : UInt8) : valL (l ++ [c]) = valL l * 10 + (c.toNat - 48) := by simp [valL]
theorem valL_digs (n : Nat) : valL (digs n) = n := by
  induction n using Nat.strongRecOn with
  | ind n ih =>
    by_cases h : n < 10
    · rw [digs_lt h]; simp [valL, dig_toNat h]
    · rw [digs_ge h, valL_snoc, ih (n / 10) (by omega), dig_toNat (by omega)]; omega
theorem digs_all (n : Nat) : (digs n).all isDig = true := by
  induction n using Nat.strongRecOn with
  | ind n ih =>
    by_cases h : n < 10
    · rw [digs_lt h]; simp [isDig, dig_toNat h]; omega
    · rw [digs_ge h, List.all_append, ih (n / 10) (by omega)]
      have := dig_toNat (show n % 10 < 10 by omega)
      simp [isDig, this]; omega
theorem digs_pos (n : Nat) : 0 < (digs n).length := by
  by_cases h : n < 10
  · rw [digs_lt h]; simp
  · rw [digs_ge h]; simp
theorem digs_ne (n : Nat) : digs n ≠ [] := fun e => by have := digs_pos n; rw [e] at this; simp at this
theorem digs_len (n : Nat) : ∀ k : Nat, n < 10 ^ (k + 1) → (digs n).length ≤ k + 1 := by
  induction n using Nat.strongRecOn with
  | ind n ih =>
    intro k hk
    by_cases h : n < 10
    · rw [digs_lt h]; simp
    · match k, hk with
      | 0, hk => omega
      | k + 1, hk =>
        rw [digs_ge h, List.length_append]
        have h1 := ih (n / 10) (by omega) k (by rw [Nat.pow_succ] at hk; exact Nat.div_lt_of_lt_mul (by rw [Nat.mul_comm]; exact hk))
        simp
        omega
theorem digs_head (n : Nat) (h : 1 < (digs n).length) : (digs n).getD 0 0 ≠ 48 := by
  induction n using Nat.strongRecOn with
  | ind n ih =>
    by_cases h10 : n < 10
    · rw [digs_lt h10] at h; simp at h
    · rw [digs_ge h10]
      have hp := digs_pos (n / 10)
      rw [List.getD_eq_getElem?_getD, List.getElem?_append_left hp, ← List.getD_eq_getElem?_getD]
      by_cases h1 : 1 < (digs (n / 10)).length
      · exact ih (n / 10) (by omega) h1
      · by_cases h2 : n / 10 < 10
        · rw [digs_lt h2]
          simp
          intro e
          have := congrArg UInt8.toNat e
          rw [dig_toNat h2] at this
          simp at this
          omega
        · rw [digs_ge h2, List.length_append, List.length_singleton] at h1
          have := digs_pos (n / 10 / 10)
          omega
theorem digs_bad {n : Nat} (h : n ≤ 1000000000000) : numBad (digs n) = false := by
  have h1 := digs_pos n
  have h2 := digs_len n 12 (by omega)
  unfold numBad
  simp only [Bool.or_eq_false_iff, beq_eq_false_iff_ne, decide_eq_false_iff_not, Bool.and_eq_false_imp, decide_eq_true_eq]
  exact ⟨⟨by omega, by omega⟩, fun h3 => digs_head n h3⟩
theorem numL_digs (n : Nat) : numL (digs n) = if n ≤ 1000000000000 then some n else none := by
  unfold numL
  rw [valL_digs, digs_all]
  by_cases h : n ≤ 1000000000000
  · rw [digs_bad h]; simp [h]
  · simp [h]
theorem numL_of_bad {l : L8} (h : l.all isDig = false) : numL l = none := by
  unfold numL
  rw [h]
  simp
/-- A number that is read is written so. -/
theorem digs_val : ∀ (k : Nat) (l : L8), l.length = k + 1 → l.all isDig = true → (1 < l.length → l.getD 0 0 ≠ 48) → digs (valL l) = l
  | 0, l, hl, ha, _ => by
    match l, hl with
    | [c], _ =>
      simp [isDig] at ha
      have e : valL [c] = c.toNat - 48 := by simp [valL]
      rw [e, digs_lt (by omega)]
      congr 1
      apply UInt8.toNat_inj.1
      rw [dig_toNat (by omega)]
      omega
  | k + 1, l, hl, ha, hh => by
    obtain ⟨m, c, rfl⟩ : ∃ m c, l = m ++ [c] := ⟨l.dropLast, l.getLast (by intro e; rw [e] at hl; simp at hl), (List.dropLast_concat_getLast _).symm⟩
    have hm : m.length = k + 1 := by simpa using hl
    simp only [List.all_append, Bool.and_eq_true] at ha
    have hc : 48 ≤ c.toNat ∧ c.toNat ≤ 57 := by simpa [isDig] using ha.2
    have hg : (m ++ [c]).getD 0 0 = m.getD 0 0 := by
      rw [List.getD_eq_getElem?_getD, List.getElem?_append_left (by omega), ← List.getD_eq_getElem?_getD]
    rw [hg] at hh
    have hh' := hh (by simp; omega)
    have ih := digs_val k m hm ha.1 (fun _ => hh')
    have hpos : 1 ≤ valL m := by
      rcases Nat.eq_zero_or_pos (valL m) with h0 | h0
      · rw [h0, digs_lt (by omega)] at ih
        rw [← ih] at hh'
        exact absurd rfl hh'
      · exact h0
    rw [valL_snoc, digs_ge (by omega)]
    have e1 : (valL m * 10 + (c.toNat - 48)) / 10 = valL m := by omega
    have e2 : (valL m * 10 + (c.toNat - 48)) % 10 = c.toNat - 48 := by omega
    rw [e1, e2, ih]
    congr 2
    apply UInt8.toNat_inj.1
    rw [dig_toNat (by omega)]
    omega
theorem numL_back {l : L8} {n : Nat} (h : numL l = some n) : digs n = l := by
  unfold numL at h
  split at h
  · cases h
  rename_i hb
  split at h
  · rename_i ha
    split at h
    · cases h
      simp [numBad] at hb
      obtain ⟨⟨h1, h2⟩, h3⟩ := hb
      refine digs_val (l.length - 1) l ?_ ha fun h => ?_
      · have : 0 < l.length := List.length_pos_iff.2 h1
        omega
      · have := h3 h
        simpa [List.getD_eq_getElem?_getD] using this
    · cases h
  · cases h

/-! ### Steps -/
structure Ac where
  d : Int
  host : Int
  zone : Int
  lba : Int
  n : Int
  by_ : Int
  keep : Int
deriving DecidableEq
def Ac.get (a : Ac) : Nat → Int
  | 1 => a.host
  | 2 => a.zone
  | 3 => a.lba
  | 4 => a.n
  | 5 => a.by_
  | 6 => a.keep
  | _ => a.d
def Ac.set (a : Ac) (k : Nat) (v : Int) : Ac :=
  match k with
  | 1 => { a with host := v }
  | 2 => { a with zone := v }
  | 3 => { a with lba := v }
  | 4 => { a with n := v }
  | 5 => { a with by_ := v }
  | 6 => { a with keep := v }
  | _ => a
def Ac.zero (d : Int) : Ac := ⟨d, 0, 0, 0, 0, 0, 0⟩
structure Stp where
  d : Int
  who : Int
  a : Ac
deriving DecidableEq

/-- The places of an act's numbers; 5: its byte. -/
def flds (d : Int) : List Nat :=
  if d = 1 ∨ d = 7 ∨ d = 10 then [1] else if d = 2 ∨ d = 11 then [1, 2] else if d = 3 ∨ d = 5 ∨ d = 6 then [1, 3, 4] else
  if d = 4 then [1, 3, 4, 5] else if d = 8 then [1, 3, 4, 5, 6] else if d = 9 then [4] else []

def actW : List L8 := [[], [115, 116, 97, 114, 116], [122, 111, 110, 101], [116, 97, 107, 101], [119, 114, 105, 116, 101], [116, 114, 105, 109], [114, 101, 97, 100], [99, 114, 97, 115, 104], [116, 111, 114, 110], [116, 105, 99, 107], [114, 101, 110, 101, 119], [99, 108, 101, 97, 110], [114, 101, 115, 101, 116]]
def stepW : List L8 := [[], [97, 99, 116], [99, 97, 108, 108], [103, 105, 118, 101], [100, 114, 111, 112], [116, 119, 105, 99, 101], [108, 97, 116, 101], [97, 103, 97, 105, 110], [113, 117, 105, 116]]
def wordL (ws : List L8) (d : Int) : L8 := if d < 0 ∨ (ws.length : Int) ≤ d then [] else ws.getD d.toNat []
def findL (ws : List L8) (w : L8) : Nat := if w = [] then 0 else (ws.idxOf? w).getD 0

/-! ### Writing -/
structure Pr where
  bs : L8
  bad : Bool
def numP (s : Pr) (n : Int) : Pr := if n < 0 ∨ 1000000000000 < n then ⟨s.bs, true⟩ else ⟨s.bs ++ 32 :: digs n.toNat, s.bad⟩
def numsP : List Nat → Pr → Ac → Pr × Ac
  | [], s, a => (s, a)
  | k :: r, s, a => numsP r (numP s (a.get k)) (a.set k 0)
def actP (s : Pr) (a : Ac) : Pr :=
  let w := wordL actW a.d
  let s1 : Pr := ⟨s.bs ++ 32 :: w, s.bad || w == []⟩
  let q := numsP (flds a.d) s1 a
  ⟨q.1.bs, q.1.bad || decide (q.2 ≠ Ac.zero a.d)⟩
def hasWho (d : Int) : Bool := decide (d ≠ 1)
def hasAct (d : Int) : Bool := decide (d = 1) || decide (d = 2)
def stepP (s : Pr) (x : Stp) : Pr :=
  let w := wordL stepW x.d
  if w = [] ∨ (hasWho x.d = false ∧ x.who ≠ 0) ∨ (hasAct x.d = false ∧ x.a ≠ Ac.zero 0) then ⟨s.bs, true⟩ else
  let s1 : Pr := ⟨s.bs ++ w, s.bad⟩
  let s2 := if hasWho x.d then numP s1 x.who else s1
  let s3 := if hasAct x.d then actP s2 x.a else s2
  ⟨s3.bs ++ [10], s3.bad⟩
def printP (l : List Stp) : Pr := l.foldl stepP ⟨[], false⟩

/-! ### Reading -/
/-- The numbers of words, laid into an act. -/
def laid : List Nat → List L8 → Ac → Option Ac
  | k :: r, w :: ws, a => match numL w with
    | some n => laid r ws (a.set k n)
    | none => none
  | [], [], a => some a
  | _, _, _ => none
def readA (w : List L8) (x : Stp) : Option Stp :=
  match w with
  | [] => none
  | v :: w =>
    let d : Int := findL actW v
    if d = 0 then none else match laid (flds d) w (Ac.zero d) with
    | some a => if a.by_ < 256 then some { x with a := a } else none
    | none => none
def readB (w : List L8) (x : Stp) : Option Stp :=
  if hasAct x.d then readA w x else if 0 < x.d ∧ w = [] then some x else none
def readL (line : L8) : Option Stp :=
  let w := words line
  let d : Int := findL stepW (w.headD [])
  let w := w.tail
  if hasWho d then match w with
    | [] => none
    | v :: w => match numL v with
      | some n => readB w ⟨d, n, Ac.zero 0⟩
      | none => none
  else readB w ⟨d, 0, Ac.zero 0⟩

/-- A line, what stands behind it, and whether it is ended. -/
def cutL : L8 → L8 × L8 × Bool
  | [] => ([], [], false)
  | c :: l => if c = 10 then ([], l, true) else (c :: (cutL l).1, (cutL l).2)
theorem cutL_le : ∀ l : L8, (cutL l).2.1.length ≤ l.length
  | [] => by simp [cutL]
  | c :: l => by
    unfold cutL
    split
    · simp
    · have := cutL_le l
      simp only [List.length_cons]
      omega
/-- What Parse answers of a rest, when out was read of lines below n. -/
def parseF : Nat → L8 → List Stp → Nat → List Stp × Nat × Int
  | 0, _, out, _ => (out, 0, 0)
  | f + 1, s, out, n => if s = [] then (out, 0, 0) else match readL (cutL s).1, (cutL s).2.2 with
    | some x, true => parseF f (cutL s).2.1 (out ++ [x]) (n + 1)
    | _, _ => ([], n, 21)
def parseL (s : L8) : List Stp × Nat × Int := if 100000 < s.length then ([], 0, 2) else parseF (s.length + 1) s [] 1
end Go.Script
