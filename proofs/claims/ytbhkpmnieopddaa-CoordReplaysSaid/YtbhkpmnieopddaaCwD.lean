/- CwD: texts of this proof, joined. -/
import Derived.Test.YtbhkpmnieopddaaCwB
import Derived.Test.YtbhkpmnieopddaaCwS
set_option linter.unusedVariables false
set_option linter.unusedSimpArgs false
set_option linter.unusedSectionVars false
namespace Go.Proofs.C8
open Go Go.Proofs Go.SX Go.RowKit Go.Proofs.L6
theorem len64_ok (w : World) (n : Nat) (hn : n < 18446744073709551616) : Calls Try.prog 101 (denL [.v (.int .u64 n)]).toArray w (Ret w (.v (.int .i64 (Lib.bitLen n)))) := by
  refine (Any.bits_Len64 Try.lays129 (n : Int) w (by omega) (by omega)).mono fun e w' h => ?_
  obtain ⟨h1, h2⟩ := h
  subst h2
  exact ⟨h1, (KeepsTo.refl _ []).toBelow⟩
theorem put_width : ∀ (k n : Nat), n < 128 ^ (k + 1) → (k = 0 ∨ 128 ^ k ≤ n) → (put n).length = k + 1
  | 0, n, h, _ => by rw [put_lt (by simpa using h)]; rfl
  | k + 1, n, h, h2 => by
    have h3 : 128 ^ (k + 1) ≤ n := h2.resolve_left (by omega)
    have hp : 1 ≤ 128 ^ k := Nat.one_le_pow _ _ (by decide)
    have h4 : 128 ^ (k + 1) = 128 ^ k * 128 := Nat.pow_succ ..
    have h5 : 128 ^ (k + 1 + 1) = 128 ^ (k + 1) * 128 := Nat.pow_succ ..
    have hn : ¬ n < 128 := by omega
    rw [put_ge hn, List.length_cons, put_width k (n / 128) (by omega) (.inr (by omega))]
theorem put_bits {n : Nat} (hn : n < 18446744073709551616) : (put n).length = if (Lib.bitLen n + 6) / 7 = 0 then 1 else (Lib.bitLen n + 6) / 7 := by
  by_cases h0 : n = 0
  · subst h0
    rw [put_lt (by decide)]
    rfl
  obtain ⟨h1, h2, h3⟩ := Lib.bitLenAux_bounds 64 n (by simpa using hn) h0
  have hd : Lib.bitLen n = Lib.bitLenAux 64 n := rfl
  rw [hd]
  obtain ⟨l, hl⟩ : ∃ l, Lib.bitLenAux 64 n = l := ⟨_, rfl⟩
  rw [hl] at h1 h2 h3 ⊢
  obtain ⟨k, hk⟩ : ∃ k, (l - 1) / 7 = k := ⟨_, rfl⟩
  have e1 : (128 : Nat) ^ k = 2 ^ (7 * k) := by rw [Nat.pow_mul]
  have e2 : (128 : Nat) ^ (k + 1) = 2 ^ (7 * (k + 1)) := by rw [Nat.pow_mul]
  have g1 : 2 ^ (7 * k) ≤ 2 ^ (l - 1) := Nat.pow_le_pow_right (by decide) (by omega)
  have g2 : 2 ^ l ≤ 2 ^ (7 * (k + 1)) := Nat.pow_le_pow_right (by decide) (by omega)
  rw [put_width k n (by omega) (.inr (by omega)), if_neg (by omega)]
  omega
theorem bits_le {n : Nat} (hn : n < 18446744073709551616) : Lib.bitLen n ≤ 64 := by
  by_cases h0 : n = 0
  · subst h0
    decide
  obtain ⟨h1, h2, h3⟩ := Lib.bitLenAux_bounds 64 n (by simpa using hn) h0
  refine Classical.byContradiction fun h => ?_
  have : 2 ^ 64 ≤ 2 ^ (Lib.bitLenAux 64 n - 1) := Nat.pow_le_pow_right (by decide) (by unfold Lib.bitLen at h; omega)
  omega
set_option maxRecDepth 100000 in
set_option maxHeartbeats 16000000 in
theorem width_ok (w : World) (n : Nat) (hn : n < 18446744073709551616) : Calls Try.prog 99 (denL [.v (.int .u64 n)]).toArray w (Ret w (.v (.int .i64 (put n).length))) := by
  refine enter (F := frame0 w) Try.func99 rfl [.v (.int .u64 n)] [] (by simp [Try.f99]) trivial (keeps0 w) fun a hr => ?_
  refine seg cfg99_ok mixed PanicFree.body 1000 [] [] hr (by first | trivial | exact HpRep.nil | assumption) (by kernel_rfl) fun s_ hs_ => ?_
  simp (maxSteps := 10000000) [SX.vc, SX.stop, SX.contS, SX.sxStep, SX.stepPure, SX.stepNew, SX.stepStore, SX.guardIx, SX.evOp, SX.opd, SX.look, SX.putS, SX.gobs, SX.AllP, SX.leave, SX.evNew, SX.evStore, SX.env0, cfg99, Try.f99]
  refine ⟨by (unfold SX.Ob; first | trivial | omega | ((try simp only [SX.inK]); (try simp [SX.den, SX.IsU8, SX.AllP, *]); (try omega))), ?_⟩
  intro a1 w1 hr1 _
  have hp := put_bits hn
  have hl64 := bits_le hn
  have hc := len64_ok w1 n hn
  obtain ⟨l, hl⟩ : ∃ l, Lib.bitLen n = l := ⟨_, rfl⟩
  rw [hl] at hc hl64 hp
  refine post_call 101 [.v (.int .u64 n)] hr1 (by first | exact wanted_none rfl | exact wanted_zero (hr1.env.same rfl rfl rfl rfl) rfl (by simp) | exact wanted_zero (hr1.env.same rfl rfl rfl rfl) rfl (by simp [*])) rfl (callable 101 Try.func101) (hc) ?_
  rintro e2 w2 ⟨rfl, hb2⟩
  refine ⟨_, rfl, ?_⟩
  have h2 := hr1.ret hb2 4 (.v (.int .i64 l)) rfl _ (hr1.all.below hb2) (by simp) rfl
  obtain ⟨q, hq⟩ : ∃ q, (l + 6) / 7 = q := ⟨_, rfl⟩
  have htd : ((l : Int) + 6).tdiv 7 = (q : Int) := by
    rw [Int.tdiv_eq_ediv_of_nonneg (by omega)]
    omega
  rw [hq] at hp
  have hq10 : q ≤ 10 := by omega
  refine seg cfg99_ok mixed PanicFree.body 1000 [] [] h2 (by first | trivial | exact HpRep.nil | assumption) (by kernel_rfl) fun s_ hs_ => ?_
  simp (maxSteps := 10000000) [SX.vc, SX.stop, SX.contS, SX.sxStep, SX.stepPure, SX.guardIx, SX.evOp, SX.opd, SX.opds, SX.look, SX.putS, SX.gobs, SX.AllP, SX.leave, SX.evBuiltin, SX.ints, SX.foldI, SX.evBin, SX.evInt, SX.arith, cfg99, htd]
  refine ⟨by (unfold SX.Ob; first | trivial | omega | ((try simp only [SX.inK]); (try simp [SX.den, SX.IsU8, SX.AllP, *]); (try omega))), ?_⟩
  intro a3 w3 hr3 _
  refine post_retn (end1 hr3 rfl rfl ⟨?_, hr3.keeps.toBelow⟩).1
  rw [hp]
  have hif : (if 1 < (q : Int) then (q : Int) else 1) = ((if q = 0 then 1 else q : Nat) : Int) := by split <;> split <;> omega
  rw [hif]
end Go.Proofs.C8
