/- Spans, the plain law: counting what an owner has. -/
import Derived.Test.YtpgknabmpghcoaaQF
import Derived.Test.YtpgknabmpghcoaaSxK
namespace Go.Proofs
set_option linter.unusedVariables false
set_option linter.unusedSimpArgs false
open Go Go.SX Go.RowKit

/-- A set of blocks as a map. -/
def hasM (H : Int → Bool) : Int → Option SV := fun b => if H b = true then some (.v (.bool true)) else none
theorem updFn_hasM (H : Int → Bool) (k : Int) : updFn (hasM H) k (.v (.bool true)) = hasM (addFn H k) := by
  funext j
  unfold updFn hasM addFn
  by_cases h : j = k
  · simp [h]
  · simp [h]
def addR (H : Int → Bool) (f : Int) (j : Nat) : Int → Bool := fun b => H b || decide (f ≤ b ∧ b < f + j)
theorem addR_zero (H : Int → Bool) (f : Int) : addR H f 0 = H := by
  funext b
  unfold addR
  have : decide (f ≤ b ∧ b < f + ((0 : Nat) : Int)) = false := by rw [decide_eq_false_iff_not]; omega
  rw [this]
  simp
theorem addFn_addR (H : Int → Bool) (f : Int) (j : Nat) : addFn (addR H f j) (f + j) = addR H f (j + 1) := by
  funext b
  unfold addFn addR
  rw [Bool.eq_iff_iff]
  simp only [Bool.or_eq_true, beq_iff_eq, decide_eq_true_eq]
  constructor
  · rintro (h | h | h)
    · exact .inr (by omega)
    · exact .inl h
    · exact .inr (by omega)
  · rintro (h | h)
    · exact .inr (.inl h)
    · by_cases h' : b = f + j
      · exact .inl h'
      · exact .inr (.inr (by omega))

def keysS (H : Int → Bool) (n : Nat) : List Int := ((List.range n).map fun i : Nat => (i : Int)).filter H
theorem keysS_nodup (H : Int → Bool) (n : Nat) : (keysS H n).Nodup := by
  unfold keysS
  refine List.Pairwise.filter _ ?_
  rw [List.pairwise_map]
  have := List.nodup_range (n := n)
  exact List.Pairwise.imp (fun h h' => h (by omega)) this
theorem mem_keysS {H : Int → Bool} {n : Nat} {k : Int} : k ∈ keysS H n ↔ (0 ≤ k ∧ k < n) ∧ H k = true := by
  unfold keysS
  simp only [List.mem_filter, List.mem_map, List.mem_range]
  constructor
  · rintro ⟨⟨i, hi, rfl⟩, h⟩
    exact ⟨⟨by omega, by omega⟩, h⟩
  · rintro ⟨⟨h0, h1⟩, h⟩
    exact ⟨⟨k.toNat, by omega, by omega⟩, h⟩

def cnt (H : Int → Bool) (lo : Int) (m : Nat) : Nat := ((List.range m).filter fun i : Nat => H (lo + i)).length
theorem keysS_len (H : Int → Bool) (n : Nat) : (keysS H n).length = cnt H 0 n := by
  unfold keysS cnt
  rw [List.filter_map, List.length_map]
  congr 1
  refine List.filter_congr fun i _ => ?_
  simp
theorem cnt_add (H : Int → Bool) (lo : Int) (a b : Nat) : cnt H lo (a + b) = cnt H lo a + cnt H (lo + a) b := by
  unfold cnt
  rw [List.range_add, List.filter_append, List.length_append, List.filter_map, List.length_map]
  congr 2
  refine List.filter_congr fun i _ => ?_
  simp only [Function.comp]
  congr 1
  omega
theorem cnt_all {H : Int → Bool} {lo : Int} {m : Nat} (h : ∀ i : Nat, i < m → H (lo + i) = true) : cnt H lo m = m := by
  unfold cnt
  rw [List.filter_eq_self.2 fun i hi => h i (List.mem_range.1 hi), List.length_range]
theorem cnt_none {H : Int → Bool} {lo : Int} {m : Nat} (h : ∀ i : Nat, i < m → H (lo + i) = false) : cnt H lo m = 0 := by
  unfold cnt
  rw [List.filter_eq_nil_iff.2 fun i hi => by simp [h i (List.mem_range.1 hi)]]
  rfl

theorem owned_cnt {H : Int → Bool} {o : Int} : ∀ {S : List Spn} {last : Int}, ChkS last S → (∀ b, last ≤ b → b < endS last S → (H b = true ↔ ∃ u, HasS S b u ∧ u.1 = o)) → ownedS o S = cnt H last (endS last S - last).toNat
  | [], last, _, _ => by simp [ownedS, endS, cnt]
  | s :: r, last, h, hb => by
    have a1 := h.1
    have a2 := h.2.1
    have a3 := endS_le r s.to h.2.2.2
    have e1 : (endS last (s :: r) - last).toNat = (s.to - last).toNat + (endS s.to r - s.to).toNat := by simp only [endS]; omega
    have e2 : last + ((s.to - last).toNat : Int) = s.to := by omega
    have ih := owned_cnt (S := r) (H := H) (o := o) h.2.2.2 fun b b1 b2 => by
      rw [hb b (by omega) b2]
      constructor
      · rintro ⟨u, hu, hu2⟩
        rcases hasS_cons.1 hu with ⟨hi, _⟩ | hu
        · have := hi.2
          omega
        · exact ⟨u, hu, hu2⟩
      · rintro ⟨u, hu, hu2⟩
        exact ⟨u, hasS_cons.2 (.inr hu), hu2⟩
    have hs : ∀ i : Nat, i < (s.to - last).toNat → (H (last + i) = true ↔ s.ow = o) := fun i hi => by
      rw [hb _ (by omega) (by simp only [endS]; omega)]
      constructor
      · rintro ⟨u, hu, hu2⟩
        have := hasS_uniq h hu (hasS_cons.2 (.inl ⟨⟨by omega, by omega⟩, rfl⟩))
        rw [this] at hu2
        exact hu2
      · intro ho
        exact ⟨_, hasS_cons.2 (.inl ⟨⟨by omega, by omega⟩, rfl⟩), ho⟩
    rw [e1, cnt_add, e2, ownedS, ih]
    by_cases ho : s.ow = o
    · rw [if_pos ho, cnt_all (lo := last) (m := (s.to - last).toNat) fun i hi => (hs i hi).2 ho]
      omega
    · rw [if_neg ho, cnt_none (lo := last) (m := (s.to - last).toNat) fun i hi => by rw [Bool.eq_false_iff]; exact fun h' => ho ((hs i hi).1 h')]
      omega

theorem owned_two {o : Int} (ho : o ≠ -1) : ∀ {S : List Spn} {last : Int}, ChkS last S → (∀ s ∈ S, s.ow = o ∨ s.ow = -1) → ownedS o S + ownedS (-1) S = endS last S - last
  | [], last, _, _ => by simp [ownedS, endS]
  | s :: r, last, h, hb => by
    have a1 := h.1
    have ih := owned_two ho (S := r) h.2.2.2 fun x hx => hb x (by simp [hx])
    simp only [ownedS, endS]
    rcases hb s (by simp) with h' | h'
    · rw [if_pos h', if_neg (by omega)]
      omega
    · rw [if_neg (by omega), if_pos h']
      omega

/-- What is so after some gives. -/
structure BackF (S : List Spn) (H : Int → Bool) (n o : Int) (i : Nat) : Prop where
  chk : ChkP S
  en : endS 0 S = n
  has : ∀ b, H b = true ↔ ∃ u, HasS S b u ∧ u.1 = o
  two : ∀ b u, HasS S b u → u.1 = o ∨ u = (-1, 0)
  ep : ∀ b u, HasS S b u → u.2 ≤ i

theorem back0 {n o : Int} (h1 : 1 ≤ n) (h2 : n ≤ 200) (ho : 0 ≤ o) : BackF [⟨0, n, -1, 0⟩] (fun _ => false) n o 0 := by
  have hm : MayO (-1) 0 := .inl ⟨rfl, rfl⟩
  have hu : ∀ b u, HasS [⟨0, n, -1, 0⟩] b u → u = (-1, 0) := fun b u h => by
    have := HasS.one.1 h
    exact this.2.symm
  refine ⟨⟨⟨rfl, by show (0 : Int) < n; omega, hm, trivial⟩, by show (0 : Int) < n; omega, by show n ≤ _; omega⟩, rfl, fun b => ?_, fun b u h => .inr (hu b u h), fun b u h => by rw [hu b u h]; show (0 : Int) ≤ _; omega⟩
  simp only [Bool.false_eq_true, false_iff]
  rintro ⟨u, h, h'⟩
  rw [hu b u h] at h'
  simp only at h'
  omega

theorem back_give {S : List Spn} {H : Int → Bool} {n o f t : Int} {i : Nat} (h : BackF S H n o i) (ho : 0 ≤ o) (ho8 : o < 8) (h0 : 0 ≤ f) (h1 : f < t) (h2 : t ≤ n) :
    giveE S f t o (1 + i) = 0 ∧ BackF (giveL S f t o (1 + i)) (addR H f (t - f).toNat) n o (i + 1) := by
  have hW : Within S f t := ⟨h.chk, h0, h1, by rw [h.en]; exact h2⟩
  have hM : MayO o (1 + i) := .inr ⟨ho, ho8, by omega⟩
  have hE : giveE S f t o (1 + i) = 0 := by
    rcases giveE_cases S f t o (1 + i) with ⟨_, hn⟩ | ⟨_, _, ⟨_, h'⟩ | ⟨h', _⟩⟩
    · exact absurd ⟨hW, hM⟩ hn
    · obtain ⟨_, b, u, _, _, hb, _, hu⟩ := (old_iff hW).1 h'
      have := h.ep b u hb
      omega
    · exact h'
  obtain ⟨g1, g2, _, g4⟩ := give_facts hE
  refine ⟨hE, g1, by rw [g2, h.en], fun b => ?_, fun b u hb => ?_, fun b u hb => ?_⟩
  · unfold addR
    rw [Bool.or_eq_true, h.has b, decide_eq_true_iff]
    have e : f + ((t - f).toNat : Int) = t := by omega
    rw [e]
    constructor
    · rintro (⟨u, hu, hu2⟩ | hf)
      · by_cases hf : f ≤ b ∧ b < t
        · exact ⟨(o, 1 + i), (g4 b _).2 (by rw [if_pos hf]), rfl⟩
        · exact ⟨u, (g4 b u).2 (by rw [if_neg hf]; exact hu), hu2⟩
      · exact ⟨(o, 1 + i), (g4 b _).2 (by rw [if_pos hf]), rfl⟩
    · rintro ⟨u, hu, hu2⟩
      by_cases hf : f ≤ b ∧ b < t
      · exact .inr hf
      · have := (g4 b u).1 hu
        rw [if_neg hf] at this
        exact .inl ⟨u, this, hu2⟩
  · have := (g4 b u).1 hb
    split at this
    · rw [this]; exact .inl rfl
    · exact h.two b u this
  · have := (g4 b u).1 hb
    split at this
    · rw [this]; show 1 + (i : Int) ≤ _; omega
    · have := h.ep b u this
      omega

theorem back_counts {S : List Spn} {H : Int → Bool} {n o : Int} {i m : Nat} (h : BackF S H n o i) (hm : n = m) (ho : 0 ≤ o) : ownedS o S = (keysS H m).length ∧ ownedS (-1) S = n - (keysS H m).length ∧ ∀ k, (hasM H k).isSome = true ↔ k ∈ keysS H m := by
  have h1 := owned_cnt (H := H) (o := o) h.chk.1 fun b _ _ => h.has b
  have h2 : ∀ s ∈ S, s.ow = o ∨ s.ow = -1 := fun s hs => by
    have hc := mem_chk h.chk hs
    rcases h.two s.fr (s.ow, s.ep) ⟨s, hs, ⟨Int.le_refl _, hc.1⟩, rfl⟩ with h' | h'
    · exact .inl h'
    · simp only [Prod.mk.injEq] at h'
      exact .inr h'.1
  have h3 := owned_two (by omega) h.chk.1 h2
  rw [h.en] at h1 h3
  have e : (n - 0).toNat = m := by omega
  rw [e, ← keysS_len] at h1
  refine ⟨h1, by omega, fun k => ?_⟩
  rw [mem_keysS]
  have : (hasM H k).isSome = true ↔ H k = true := by
    unfold hasM
    split <;> simp_all
  rw [this]
  refine ⟨fun hk => ⟨?_, hk⟩, fun hk => hk.2⟩
  obtain ⟨u, hu, _⟩ := (h.has k).1 hk
  have l1 := hasS_low S 0 h.chk.1 hu
  have l2 := hasS_high S 0 h.chk.1 hu
  rw [h.en] at l2
  omega

theorem back_take {S : List Spn} {H : Int → Bool} {n o : Int} {i : Nat} (h : BackF S H n o i) (ho : 0 ≤ o) (ho8 : o < 8) : takeL S o = [⟨0, n, -1, 0⟩] := by
  obtain ⟨t1, t2, t3, t4, _⟩ := take_facts (L := S) (o := o) ⟨h.chk, ho, ho8⟩
  have hn : 1 ≤ n := by have := h.chk.2.1; rw [h.en] at this; omega
  have hC1 : ChkS 0 [⟨0, n, -1, 0⟩] := ⟨rfl, by show (0 : Int) < n; omega, .inl ⟨rfl, rfl⟩, trivial⟩
  refine normS_uniq _ _ 0 t1.1 hC1 t3 trivial fun b u => ?_
  rw [t4, HasS.one]
  constructor
  · rintro ⟨u', hu', rfl⟩
    have l1 := hasS_low S 0 h.chk.1 hu'
    have l2 := hasS_high S 0 h.chk.1 hu'
    rw [h.en] at l2
    refine ⟨⟨l1, l2⟩, ?_⟩
    split
    · rfl
    · rename_i hne
      rcases h.two b u' hu' with h' | h'
      · exact absurd h' hne
      · exact h'.symm
  · rintro ⟨⟨l1, l2⟩, rfl⟩
    obtain ⟨u', hu'⟩ := hasS_some h.chk (b := b) l1 (by rw [h.en]; exact l2)
    refine ⟨u', hu', ?_⟩
    split
    · rfl
    · rename_i hne
      rcases h.two b u' hu' with h' | h'
      · exact absurd h' hne
      · exact h'.symm
end Go.Proofs
