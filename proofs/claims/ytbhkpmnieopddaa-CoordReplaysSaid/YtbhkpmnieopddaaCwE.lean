/- CwE: texts of this proof, joined. -/
import Derived.Test.YtbhkpmnieopddaaCwD
set_option linter.unusedVariables false
set_option linter.unusedSimpArgs false
set_option linter.unusedSectionVars false
namespace Go.Proofs.C8
open Go Go.Proofs Go.SX Go.RowKit Go.Proofs.L6
def TakeR (w : World) (L : List Nat) (n : Nat) (e : Ending) (w' : World) : Prop :=
  Below w.heap.size w w' ∧ (((∃ R, L = put n ++ R) ∧ e = .returned (den (.tu [.v (.int .u64 n), .v (.int .i64 (put n).length), .v (.int .i64 0)]))) ∨
    ((¬ ∃ R, L = put n ++ R) ∧ e = .returned (den (.tu [.v (.int .u64 0), .v (.int .i64 0), .v (.int .i64 20)]))))
def Numb (L : List Nat) (n : Nat) : Prop := n < 9223372036854775808 ∧ ((∃ R, L = put n ++ R) ∨ (L.length < (put n).length ∧ L = (put n).take L.length))
theorem put_nth : ∀ (k n : Nat), k < (put n).length → nth 0 (put n) k = if k + 1 < (put n).length then n / 128 ^ k % 128 + 128 else n / 128 ^ k
  | 0, n, h => by
    by_cases hn : n < 128
    · rw [put_lt hn]; simp [nth]
    · rw [put_ge hn]
      have : 0 < (put (n / 128)).length := by
        by_cases h : n / 128 < 128
        · rw [put_lt h]; simp
        · rw [put_ge h]; simp
      simp [nth, this]
  | k + 1, n, h => by
    by_cases hn : n < 128
    · rw [put_lt hn] at h; simp at h
    · rw [put_ge hn] at h ⊢
      simp only [List.length_cons] at h ⊢
      have := put_nth k (n / 128) (by omega)
      have e : nth 0 ((n % 128 + 128) :: put (n / 128)) (k + 1) = nth 0 (put (n / 128)) k := rfl
      rw [e, this, Nat.div_div_eq_div_mul, Nat.pow_succ, Nat.mul_comm 128]
      by_cases h1 : k + 1 < (put (n / 128)).length
      · rw [if_pos h1, if_pos (by omega)]
      · rw [if_neg h1, if_neg (by omega)]
theorem put_last : ∀ (n : Nat), n / 128 ^ ((put n).length - 1) < 128 ∧ ∀ k, k + 1 < (put n).length → 128 ≤ n / 128 ^ k := by
  intro n
  induction n using Nat.strongRecOn with
  | _ n ih =>
    by_cases hn : n < 128
    · rw [put_lt hn]
      refine ⟨by simpa using hn, fun k hk => by simp at hk⟩
    · obtain ⟨h1, h2⟩ := ih (n / 128) (by omega)
      have hp : 0 < (put (n / 128)).length := by
        by_cases h : n / 128 < 128
        · rw [put_lt h]; simp
        · rw [put_ge h]; simp
      rw [put_ge hn]
      simp only [List.length_cons, Nat.add_sub_cancel]
      refine ⟨?_, fun k hk => ?_⟩
      · obtain ⟨q, hq⟩ : ∃ q, (put (n / 128)).length = q + 1 := ⟨(put (n / 128)).length - 1, by omega⟩
        rw [hq] at h1 ⊢
        rw [Nat.add_sub_cancel, Nat.div_div_eq_div_mul] at h1
        rw [Nat.pow_succ, Nat.mul_comm]
        exact h1
      · rcases k with _ | k
        · simp; omega
        · have := h2 k (by omega)
          rw [Nat.div_div_eq_div_mul] at this
          rw [Nat.pow_succ, Nat.mul_comm]
          exact this
theorem nth_numb {L : List Nat} {n k : Nat} (h : Numb L n) (hk : k < L.length) (hk2 : k < (put n).length) : nth 0 L k = nth 0 (put n) k := by
  rcases h.2 with ⟨R, hR⟩ | ⟨h1, h2⟩
  · rw [hR, nth_append_left hk2]
  · rw [h2]
    have := nth_part (d := 0) (L := put n) (i := 0) (n := L.length) (j := k) hk
    simpa using this
theorem andNot128 : ∀ b : Fin 256, bitv .andNot .u8 ((b.val : Nat) : Int) 128 = ((b.val % 128 : Nat) : Int) := by decide +kernel
theorem shl_or {n k d : Nat} (hn : n < 9223372036854775808) (hk : k ≤ 8) (hd : d = n / 128 ^ k % 128) :
    bitv .or .u64 ((n : Int) % 128 ^ k) (IntKind.u64.wrap ((d : Int) * 2 ^ min (7 * (k : Int)).toNat IntKind.u64.bits)) = ((n % 128 ^ (k + 1) : Nat) : Int) := by
  have e0 : (7 * (k : Int)).toNat = 7 * k := by omega
  have e1 : min (7 * k) IntKind.u64.bits = 7 * k := Nat.min_eq_left (by show 7 * k ≤ 64; omega)
  have e2 : (128 : Nat) ^ k = 2 ^ (7 * k) := by rw [Nat.pow_mul]
  have e3 : ((d : Int) * 2 ^ (7 * k)) = ((d * 2 ^ (7 * k) : Nat) : Int) := by simp
  have e4 : ((n : Int) % 128 ^ k) = ((n % 128 ^ k : Nat) : Int) := by simp
  have g0 : n % 128 ^ (k + 1) = n % 128 ^ k + 128 ^ k * (n / 128 ^ k % 128) := Nat.mod_pow_succ
  have g1 : n % 128 ^ (k + 1) ≤ n := Nat.mod_le _ _
  have g2 : n % 128 ^ k < 2 ^ (7 * k) := by
    rw [← e2]
    exact Nat.mod_lt _ (Nat.pow_pos (by decide))
  rw [← hd, e2] at g0
  have g3 : d * 2 ^ (7 * k) = 2 ^ (7 * k) * d := Nat.mul_comm _ _
  rw [e0, e1, e3, e4, IntWalk.u64_in _ (by omega)]
  have hor := Nat.two_pow_add_eq_or_of_lt (b := n % 2 ^ (7 * k)) (i := 7 * k) (by rw [← e2]; rw [← e2] at g2; exact g2) d
  rw [e2]
  obtain ⟨x, hx⟩ : ∃ x, n % 2 ^ (7 * k) = x := ⟨_, rfl⟩
  obtain ⟨y, hy⟩ : ∃ y, d * 2 ^ (7 * k) = y := ⟨_, rfl⟩
  rw [hx] at hor g0 ⊢
  rw [← g3, hy] at hor g0
  rw [hy]
  have hx64 : x < 2 ^ 64 := by omega
  have hy64 : y < 2 ^ 64 := by omega
  have b1 : (BitVec.ofInt 64 (x : Int)).toNat = x := by simp [BitVec.toNat_ofInt]; omega
  have b2 : (BitVec.ofInt 64 (y : Int)).toNat = y := by simp [BitVec.toNat_ofInt]; omega
  have b3 : bitv .or .u64 (x : Int) (y : Int) = IntKind.u64.wrap ((x ||| y : Nat) : Int) := by
    show IntKind.u64.wrap ((BitVec.ofInt 64 (x : Int) ||| BitVec.ofInt 64 (y : Int)).toNat : Int) = _
    rw [BitVec.toNat_or, b1, b2]
  rw [b3, Nat.or_comm, ← hor, IntWalk.u64_in _ (by omega), g0]
  congr 1
  omega
def TkLoop (w : World) (v : Value) (n : Nat) (len : Nat) (m : Nat) (a : Act) (w' : World) : Prop :=
  ∃ k : Nat, m = 10 - k ∧ k < (put n).length ∧ k ≤ len ∧ RepX (frame0 w) ⟨[(3, 0, .v (.int .i64 k)), (2, 0, .v (.int .u64 (n % 128 ^ k : Nat))), (4, 0, .v (.int .i64 0)), (0, 0, .v v)], [], 0, 0, 49, [], [], []⟩ a w'
set_option maxRecDepth 100000 in
set_option maxHeartbeats 16000000 in
theorem take_ok {P : Nat → Prop} (w : World) (v : Value) (L : List Nat) (n : Nat) (hL : RdU P w v L) (hN : Numb L n) (hlen : L.length ≤ 1000000) : Calls Try.prog 94 (denL [.v v]).toArray w (TakeR w L n) := by
  obtain ⟨ad, cp, rfl⟩ := hL.slice
  have hn := hN.1
  have hl9 : (put n).length ≤ 9 := put_len 8 n (by
    have : (128 : Nat) ^ (8 + 1) = 9223372036854775808 := by decide
    omega)
  have hl0 : 0 < (put n).length := by
    by_cases h : n < 128
    · rw [put_lt h]; simp
    · rw [put_ge h]; simp
  refine enter (F := frame0 w) Try.func94 rfl [.v (.slice ad L.length cp)] [] (by simp [Try.f94]) trivial (keeps0 w) fun a hr => ?_
  refine seg cfg94_ok mixed PanicFree.body 1000 [] [] hr (by first | trivial | exact HpRep.nil | assumption) (by kernel_rfl) fun s_ hs_ => ?_
  simp (maxSteps := 10000000) [SX.vc, SX.stop, SX.contS, SX.sxStep, SX.stepPure, SX.guardIx, SX.evOp, SX.opd, SX.putS, SX.gobs, SX.AllP, SX.leave, SX.env0, cfg94, Try.f94]
  refine ⟨by (unfold SX.Ob; first | trivial | omega | ((try simp only [SX.inK]); (try simp [SX.den, SX.IsU8, SX.AllP, *]); (try omega))), ?_⟩
  intro a1 w1 hr1 _
  refine post_loop (TkLoop w (.slice ad L.length cp) n L.length) 10 ⟨0, rfl, hl0, by omega, hr1.re (by simp [envTo, SX.look, Nat.mod_one]) trivial rfl rfl⟩ ?_
  rintro m a2 w2 ⟨k, rfl, hkp, hkL, hr2⟩
  have hk10 : (k : Int) < 10 := by omega
  by_cases hlt : k < L.length
  rotate_left
  · obtain rfl : k = L.length := by omega
    refine seg cfg94_ok mixed PanicFree.body 1000 [false] [] hr2 (by first | trivial | exact HpRep.nil | assumption) (by kernel_rfl) fun s_ hs_ => ?_
    simp (maxSteps := 10000000) [SX.vc, SX.stop, SX.contS, SX.contB, SX.contW, SX.sxStep, SX.stepPure, SX.guardIx, SX.evOp, SX.opd, SX.opds, SX.look, SX.putS, SX.gobs, SX.AllP, SX.leave, SX.lookC, SX.lookB, SX.lookT, SX.findK, SX.evBuiltin, SX.evBin, SX.evInt, SX.evPick, SX.pickOpd, SX.popTo, SX.cnd, cfg94, hk10]
    refine ⟨by (unfold SX.Ob; first | trivial | omega | ((try simp only [SX.inK]); (try simp [SX.den, SX.IsU8, SX.AllP, *]); (try omega))), ?_⟩
    intro a3 w3 hr3 _
    refine post_retn (end3 hr3 rfl rfl rfl rfl ⟨hr3.keeps.toBelow, .inr ⟨?_, rfl⟩⟩).1
    rintro ⟨R, hR⟩
    rw [hR] at hkp
    simp at hkp
    omega
  obtain ⟨b, o0, cap, u, fz, hP, hv, hrep⟩ := hL.opn hlt
  cases hv
  have hrep2 := SO.rep_same hrep (hr2.keeps.toBelow.block _ (SO.rep_lt hrep))
  have hc := put_nth k n hkp
  rw [← nth_numb hN hlt hkp] at hc
  obtain ⟨hpl, hpg⟩ := put_last n
  obtain ⟨c, hx⟩ : ∃ c, nth (0 : Nat) L k = c := ⟨_, rfl⟩
  rw [hx] at hc
  have hlast : k + 1 < (put n).length ∨ k + 1 = (put n).length := by omega
  have hq : k + 1 = (put n).length → n / 128 ^ k < 128 := fun h => by
    rw [← h, Nat.add_sub_cancel] at hpl
    exact hpl
  have hc256 : c < 256 := by
    rw [hc]
    split
    · omega
    · have := hq (by omega)
      omega
  have hcm : c % 128 = n / 128 ^ k % 128 := by
    rw [hc]
    split <;> omega
  have han : bitv .andNot .u8 (c : Int) 128 = ((c % 128 : Nat) : Int) := andNot128 ⟨c, hc256⟩
  obtain ⟨d, hd⟩ : ∃ d, c % 128 = d := ⟨_, rfl⟩
  rw [hd] at han hcm
  have hd128 : d < 128 := by omega
  have hwd : IntKind.u64.wrap (d : Int) = d := IntWalk.u64_in _ (by omega)
  have h3 := (hr2.top 0 (.sl 0 b o0 0 L.length cp 1) rfl (by simp [den])).see [(b, false, .arr o0 L.length (fun j => u8C (nth (0 : Nat) L j)) 1 u fz)] (HpAll.one hrep2)
  have hk9 : ¬ (k : Int) = 9 := by omega
  refine seg cfg94_ok mixed PanicFree.body 1000 [true, false] [(22, false)] h3.rebase (by first | trivial | exact HpRep.nil | assumption) (by kernel_rfl) fun s_ hs_ => ?_
  simp (maxSteps := 10000000) [SX.vc, SX.stop, SX.contS, SX.contB, SX.sxStep, SX.stepPure, SX.guardIx, SX.evOp, SX.opd, SX.opds, SX.look, SX.putS, SX.gobs, SX.AllP, SX.leave, SX.lookC, SX.lookB, SX.lookT, SX.findK, SX.evBuiltin, SX.evBin, SX.evInt, SX.arith, SX.evLoad, SX.shapeUp, SX.evIndexAddr, SX.evConv, SX.evPick, SX.pickOpd, SX.cnd, SX.TD.isAgg, SX.evConvH, Go.undef, cfg94, u8C, hx, han, hwd, hk10, hk9]
  refine ⟨by (unfold SX.Ob; first | trivial | omega | ((try simp only [SX.inK]); (try simp [SX.den, SX.IsU8, SX.AllP, *]); (try omega))), ?_⟩
  intro a4 w4 hr4' _
  have hr4 := h3.unbase hr4'
  have hor := shl_or hn (show k ≤ 8 by omega) hcm.symm.symm
  have hr5 := hr4.top 2 (.v (.int .u64 ((n % 128 ^ (k + 1) : Nat) : Int))) rfl (by rw [← hor])
  obtain ⟨acc, hacc⟩ : ∃ acc, n % 128 ^ (k + 1) = acc := ⟨_, rfl⟩
  have hr6 := hr5.top 2 (.v (.int .u64 acc)) rfl (by rw [hacc])
  rcases hlast with h1 | h1
  · have hc128 : ¬ c < 128 := by rw [hc, if_pos h1]; omega
    refine seg cfg94_ok mixed PanicFree.body 1000 [false] [] hr6.rebase (by first | trivial | exact HpRep.nil | assumption) (by kernel_rfl) fun s_ hs_ => ?_
    simp (maxSteps := 10000000) [SX.vc, SX.stop, SX.contB, SX.opd, SX.look, SX.AllP]
    refine ⟨by (unfold SX.Ob; first | trivial | omega | ((try simp only [SX.inK]); (try simp [SX.den, SX.IsU8, SX.AllP, *]); (try omega))), ?_⟩
    intro a7 w7 hr7' _
    have hr7 := hr4.unbase hr7'
    exact post_rnd (10 - (k + 1)) (by omega) ⟨k + 1, rfl, h1, by omega, by rw [hacc]; exact hr7.re (by simp [envTo, SX.look, den]) trivial rfl rfl⟩
  have hc128 : c < 128 := by
    rw [hc, if_neg (by omega)]
    exact hq h1
  have haccn : acc = n := by
    rw [← hacc]
    refine Nat.mod_eq_of_lt ?_
    rw [Nat.pow_succ, Nat.mul_comm]
    exact Nat.lt_mul_of_div_lt (hq h1) (Nat.pow_pos (by decide))
  subst haccn
  refine seg cfg94_ok mixed PanicFree.body 1000 [true] [] hr6.rebase (by first | trivial | exact HpRep.nil | assumption) (by kernel_rfl) fun s_ hs_ => ?_
  simp (maxSteps := 10000000) [SX.vc, SX.stop, SX.contS, SX.contB, SX.sxStep, SX.stepPure, SX.stepNew, SX.stepStore, SX.guardIx, SX.evOp, SX.opd, SX.look, SX.putS, SX.gobs, SX.AllP, SX.evNew, SX.evStore]
  refine ⟨by (unfold SX.Ob; first | trivial | omega | ((try simp only [SX.inK]); (try simp [SX.den, SX.IsU8, SX.AllP, *]); (try omega))), ?_⟩
  intro a7 w7 hr7' _
  have hr7 := hr4.unbase hr7'
  have hwi := width_ok w7 acc (by omega)
  rw [← h1] at hwi
  refine post_call 99 [.v (.int .u64 acc)] hr7 (by first | exact wanted_none rfl | exact wanted_zero (hr7.env.same rfl rfl rfl rfl) rfl (by simp) | exact wanted_zero (hr7.env.same rfl rfl rfl rfl) rfl (by simp [*])) rfl (callable 99 Try.func99) (hwi) ?_
  rintro e8 w8 ⟨rfl, hb8⟩
  refine ⟨_, rfl, ?_⟩
  have h8 := hr7.ret hb8 44 (.v (.int .i64 (k + 1 : Nat))) rfl _ (hr7.all.below hb8) (by simp) rfl
  refine seg cfg94_ok mixed PanicFree.body 1000 [false] [] h8 (by first | trivial | exact HpRep.nil | assumption) (by kernel_rfl) fun s_ hs_ => ?_
  simp (maxSteps := 10000000) [SX.vc, SX.stop, SX.contS, SX.contB, SX.sxStep, SX.stepPure, SX.guardIx, SX.evOp, SX.opd, SX.look, SX.putS, SX.gobs, SX.AllP, SX.leave, SX.evBin, SX.evInt, cfg94]
  refine ⟨by (unfold SX.Ob; first | trivial | omega | ((try simp only [SX.inK]); (try simp [SX.den, SX.IsU8, SX.AllP, *]); (try omega))), ?_⟩
  intro a9 w9 hr9 _
  have hLR : ∃ R, L = put acc ++ R := by
    rcases hN.2 with h | ⟨h, _⟩
    · exact h
    · omega
  obtain ⟨R, hR⟩ := hLR
  exact post_retn (end3 hr9 rfl rfl rfl rfl ⟨hr9.keeps.toBelow, .inl ⟨⟨R, hR⟩, by rw [← h1]; simp [den, denL]⟩⟩).1
end Go.Proofs.C8
