/- CwA: texts of this proof, joined. -/
import Derived.Test.YtbhkpmnieopddaaF2
set_option linter.unusedVariables false
set_option linter.unusedSimpArgs false
set_option linter.unusedSectionVars false
namespace Go.Proofs.C8
open Go Go.Proofs Go.SX Go.RowKit Go.Proofs.L6
def u8C (x : Nat) : List SV := [.v (.int .u8 x)]
abbrev RdU := RdS u8C 1 (0 : Nat)
abbrev OwU := OwS u8C 1 (0 : Nat)
theorem flatU (L : List Nat) : ∀ x ∈ L, ∀ c ∈ u8C x, NotAgg (den c) := by
  intro x _ c hc
  simp only [u8C, List.mem_cons, List.not_mem_nil, or_false] at hc
  rw [hc]
  trivial
def put (n : Nat) : List Nat := if n < 128 then [n] else (n % 128 + 128) :: put (n / 128)
termination_by n
decreasing_by omega
theorem put_lt {n : Nat} (h : n < 128) : put n = [n] := by rw [put, if_pos h]
theorem put_ge {n : Nat} (h : ¬ n < 128) : put n = (n % 128 + 128) :: put (n / 128) := by rw [put, if_neg h]
theorem or128 : ∀ b : Fin 256, bitv .or .u8 ((b.val : Nat) : Int) 128 = ((b.val % 128 + 128 : Nat) : Int) := by decide +kernel
theorem u8_wrap (m : Nat) : IntKind.u8.wrap (m : Int) = ((m % 256 : Nat) : Int) := by
  simp [IntKind.wrap, IntKind.bits, IntKind.signed]
theorem or_u8 (m : Nat) : bitv .or .u8 (IntKind.u8.wrap (m : Int)) 128 = ((m % 128 + 128 : Nat) : Int) := by
  rw [u8_wrap]
  have := or128 ⟨m % 256, Nat.mod_lt _ (by decide)⟩
  simp only at this
  rw [this]
  congr 2
  omega
theorem shr7 (m : Nat) : (m : Int).fdiv (2 ^ min 7 IntKind.u64.bits) = ((m / 128 : Nat) : Int) := by
  show (m : Int).fdiv 128 = _
  rw [Int.fdiv_eq_ediv_of_nonneg _ (by omega)]
  rfl
def PutR (w : World) (n : Nat) (e : Ending) (w' : World) : Prop := ∃ v, e = .returned v ∧ OwU (fun x => w.heap.size ≤ x) w' v (put n) ∧ Below w.heap.size w w'
def PutLoop (w : World) (n : Nat) (m : Nat) (a : Act) (w' : World) : Prop :=
  ∃ (v : Value) (bs : List Nat), bs ++ put m = put n ∧ bs.length ≤ 20 ∧ m * 128 ^ bs.length ≤ n ∧ OwU (fun x => w.heap.size ≤ x) w' v bs ∧
    RepX (frame0 w) ⟨[(3, 0, .v v), (0, 0, .v (.int .u64 m)), (2, 0, .v (.slice none 0 0))], [], 0, 0, 19, [], [], []⟩ a w'
set_option maxRecDepth 100000 in
set_option maxHeartbeats 16000000 in
theorem put_ok (w : World) (n : Nat) (hn : n < 18446744073709551616) : Calls Try.prog 64 (denL [.v (.int .u64 n)]).toArray w (PutR w n) := by
  refine enter (F := frame0 w) Try.func64 rfl [.v (.int .u64 n)] [] (by simp [Try.f64]) trivial (keeps0 w) fun a hr => ?_
  refine seg cfg64_ok mixed PanicFree.body 1000 [] [] hr (by first | trivial | exact HpRep.nil | assumption) (by kernel_rfl) fun s_ hs_ => ?_
  simp (maxSteps := 10000000) [SX.vc, SX.stop, SX.contS, SX.sxStep, SX.stepPure, SX.guardIx, SX.evOp, SX.opd, SX.putS, SX.gobs, SX.AllP, SX.leave, SX.env0, cfg64, Try.f64]
  refine ⟨by (unfold SX.Ob; first | trivial | omega | ((try simp only [SX.inK]); (try simp [SX.den, SX.IsU8, SX.AllP, *]); (try omega))), ?_⟩
  intro a1 w1 hr1 _
  refine post_loop (PutLoop w n) n ⟨.slice none 0 0, [], rfl, by simp, by simp, OwS.nil, hr1.re (by simp [envTo, SX.look]) trivial rfl rfl⟩ ?_
  rintro m a2 w2 ⟨v, bs, hb, hbl, hmn, hO, hr2⟩
  obtain ⟨ad, cp, rfl⟩ := hO.slice
  have z2 : w.heap.size ≤ w2.heap.size := hr2.keeps.size
  by_cases hm : m < 128
  · have hm' : ¬ (128 : Int) ≤ (m : Int) := by omega
    have hmb := u8_wrap m
    rw [Nat.mod_eq_of_lt (by omega)] at hmb
    refine seg cfg64_ok mixed PanicFree.body 1000 [false] [] hr2.rebase (by first | trivial | exact HpRep.nil | assumption) (by kernel_rfl) fun sA hsA => ?_
    simp (maxSteps := 10000000) [SX.vc, SX.stop, SX.contS, SX.contB, SX.contW, SX.sxStep, SX.stepPure, SX.stepNew, SX.stepStore, SX.guardIx, SX.evOp, SX.opd, SX.opds, SX.look, SX.putS, SX.gobs, SX.AllP, SX.leave, SX.lookT, SX.evBuiltin, SX.evBin, SX.evInt, SX.evNew, SX.evStore, SX.SV.cells, SX.evConv, SX.popTo, SX.evConvH, cfg64, hm', hmb]
    refine ⟨by (unfold SX.Ob; first | trivial | omega | ((try simp only [SX.inK]); (try simp [SX.den, SX.IsU8, SX.AllP, *]); (try omega))), ?_⟩
    intro a3 w3 hr3' _
    have hr3 := hr2.unbase hr3'
    have z3 : w2.heap.size ≤ w3.heap.size := hr3'.keeps.size
    have hO3 := hO.keep hr3'.keeps (by simp [mutB])
    refine post_app (C := cfg64) cfg64_ok hr3 (by first | exact wanted_none rfl | exact wanted_zero (hr3.env.same rfl rfl rfl rfl) rfl (by simp)) rfl (by simp) rfl rfl rfl rfl rfl rfl rfl rfl rfl (by decide) (flatU _) (by (try simp only [List.length_cons, List.length_nil]); omega) (fun x hx => by omega) hO3 (RdS.lit (x := m) hr3.all.1.1 (by simp [u8C])) [] (fun _ _ _ _ => trivial) (fun x hx => .inl hx) fun V4 a4 w4 B4 hO4 hB4 hk4 hr4 => ?_
    obtain ⟨ad4, cp4, rfl⟩ := hO4.slice
    refine seg cfg64_ok mixed PanicFree.body 1000 [] [] hr4.rebase (by first | trivial | exact HpRep.nil | assumption) (by kernel_rfl) fun s_ hs_ => ?_
    simp (maxSteps := 10000000) [SX.vc, SX.stop, SX.contS, SX.sxStep, SX.stepPure, SX.guardIx, SX.evOp, SX.opd, SX.look, SX.putS, SX.gobs, SX.AllP, SX.leave, cfg64]
    refine ⟨by (unfold SX.Ob; first | trivial | omega | ((try simp only [SX.inK]); (try simp [SX.den, SX.IsU8, SX.AllP, *]); (try omega))), ?_⟩
    intro a5 w5 hr5' _
    have hr5 := hr4.unbase hr5'
    have hl : (bs ++ [m]).length = bs.length + 1 := by simp
    rw [hl] at hO4
    have hO5 : OwU (fun x => w.heap.size ≤ x) w5 (.slice ad4 (bs.length + 1) cp4) (bs ++ [m]) := hO4.keep hr5'.keeps (by simp [mutB])
    rw [put_lt hm] at hb
    exact post_retn (end1 hr5 rfl rfl ⟨_, rfl, by rw [← hb]; exact hO5, hr5.keeps.toBelow⟩).1
  have hm' : (128 : Int) ≤ (m : Int) := by omega
  refine seg cfg64_ok mixed PanicFree.body 1000 [true] [] hr2.rebase (by first | trivial | exact HpRep.nil | assumption) (by kernel_rfl) fun sA hsA => ?_
  simp (maxSteps := 10000000) [SX.vc, SX.stop, SX.contS, SX.contB, SX.sxStep, SX.stepPure, SX.stepNew, SX.stepStore, SX.guardIx, SX.evOp, SX.opd, SX.opds, SX.look, SX.putS, SX.gobs, SX.AllP, SX.leave, SX.lookT, SX.evBuiltin, SX.evBin, SX.evInt, SX.evNew, SX.evStore, SX.SV.cells, SX.evConv, SX.evConvH, cfg64, hm', or_u8]
  refine ⟨by (unfold SX.Ob; first | trivial | omega | ((try simp only [SX.inK]); (try simp [SX.den, SX.IsU8, SX.AllP, *]); (try omega))), ?_⟩
  intro a3 w3 hr3' _
  have hr3 := hr2.unbase hr3'
  have z3 : w2.heap.size ≤ w3.heap.size := hr3'.keeps.size
  have hO3 := hO.keep hr3'.keeps (by simp [mutB])
  have hl9 : bs.length ≤ 9 := Classical.byContradiction fun h => by
    have h1 : 128 ^ 10 ≤ 128 ^ bs.length := Nat.pow_le_pow_right (by decide) (by omega)
    have h2 : 128 * 128 ^ bs.length ≤ m * 128 ^ bs.length := Nat.mul_le_mul_right _ (by omega)
    have h3 : (128 : Nat) ^ 10 = 1180591620717411303424 := by decide
    omega
  have hms : m / 128 * 128 ^ (bs.length + 1) ≤ n := by
    rw [Nat.pow_succ, Nat.mul_comm (128 ^ bs.length), ← Nat.mul_assoc]
    have h2 : m / 128 * 128 * 128 ^ bs.length ≤ m * 128 ^ bs.length := Nat.mul_le_mul_right _ (Nat.div_mul_le_self m 128)
    omega
  refine post_app (C := cfg64) cfg64_ok hr3 (by first | exact wanted_none rfl | exact wanted_zero (hr3.env.same rfl rfl rfl rfl) rfl (by simp)) rfl (by simp) rfl rfl rfl rfl rfl rfl rfl rfl rfl (by decide) (flatU _) (by (try simp only [List.length_cons, List.length_nil]); omega) (fun x hx => by omega) hO3 (RdS.lit (x := m % 128 + 128) hr3.all.1.1 (by simp [u8C])) [] (fun _ _ _ _ => trivial) (fun x hx => .inl hx) fun V4 a4 w4 B4 hO4 hB4 hk4 hr4 => ?_
  obtain ⟨ad4, cp4, rfl⟩ := hO4.slice
  refine seg cfg64_ok mixed PanicFree.body 1000 [] [] hr4.rebase (by first | trivial | exact HpRep.nil | assumption) (by kernel_rfl) fun s_ hs_ => ?_
  simp (maxSteps := 10000000) [SX.vc, SX.stop, SX.contS, SX.sxStep, SX.stepPure, SX.guardIx, SX.evOp, SX.opd, SX.look, SX.putS, SX.gobs, SX.AllP, SX.leave, SX.evBin, SX.evInt, cfg64, shr7]
  refine ⟨by (unfold SX.Ob; first | trivial | omega | ((try simp only [SX.inK]); (try simp [SX.den, SX.IsU8, SX.AllP, *]); (try omega))), ?_⟩
  intro a5 w5 hr5' _
  have hr5 := hr4.unbase hr5'
  have hl : (bs ++ [m % 128 + 128]).length = bs.length + 1 := by simp
  rw [hl] at hO4
  have hO5 : OwU (fun x => w.heap.size ≤ x) w5 (.slice ad4 (bs.length + 1) cp4) (bs ++ [m % 128 + 128]) := hO4.keep hr5'.keeps (by simp [mutB])
  rw [put_ge hm] at hb
  exact post_rnd (m / 128) (by omega) ⟨_, bs ++ [m % 128 + 128], by rw [List.append_assoc]; exact hb, by simp; omega, by simpa using hms, hO5, hr5.re (by simp [envTo, SX.look, den]) trivial rfl rfl⟩
end Go.Proofs.C8
