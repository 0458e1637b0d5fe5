/- CwB: texts of this proof, joined. -/
import Derived.Test.YtbhkpmnieopddaaCwA
set_option linter.unusedVariables false
set_option linter.unusedSimpArgs false
set_option linter.unusedSectionVars false
namespace Go.Proofs.C8
open Go Go.Proofs Go.SX Go.RowKit Go.Proofs.L6
theorem put_len : ∀ (k n : Nat), n < 128 ^ (k + 1) → (put n).length ≤ k + 1
  | 0, n, h => by rw [put_lt (by simpa using h)]; simp
  | k + 1, n, h => by
    by_cases hn : n < 128
    · rw [put_lt hn]; simp
    · rw [put_ge hn]
      have : n / 128 < 128 ^ (k + 1) := Nat.div_lt_of_lt_mul (by rw [Nat.mul_comm]; rw [Nat.pow_succ] at h; exact h)
      have := put_len k (n / 128) this
      simp only [List.length_cons]
      omega
def putAll (L : List Int) : List Nat := (L.map fun x => put x.toNat).flatten
theorem putAll_snoc (L : List Int) (x : Int) : putAll (L ++ [x]) = putAll L ++ put x.toNat := by simp [putAll]
def NumsR (w : World) (L : List Int) (e : Ending) (w' : World) : Prop :=
  ∃ v, Below w.heap.size w w' ∧ (((∀ x ∈ L, 0 ≤ x) ∧ e = .returned (den (.tu [.v v, .v (.int .i64 0)])) ∧ OwU (fun x => w.heap.size ≤ x) w' v (putAll L)) ∨ (¬ (∀ x ∈ L, 0 ≤ x) ∧ e = .returned (den (.tu [.v (.slice none 0 0), .v (.int .i64 1)]))))
def NumsLoop (w : World) (vl : Value) (L : List Int) (m : Nat) (a : Act) (w' : World) : Prop :=
  ∃ (k : Nat) (v : Value), m = L.length - k ∧ k ≤ L.length ∧ (∀ j, j < k → 0 ≤ nth (0 : Int) L j) ∧ (putAll (L.take k)).length ≤ 10 * k ∧ OwU (fun x => w.heap.size ≤ x) w' v (putAll (L.take k)) ∧
    RepX (frame0 w) ⟨[(9, 0, .v (.int .i64 k)), (8, 0, .v (.int .i64 L.length)), (7, 0, .v vl), (4, 0, .v v), (2, 0, .v (.slice none 0 0)), (3, 0, .v (.int .i64 0))], [], 0, 0, 22, [], [], []⟩ a w'
set_option maxRecDepth 100000 in
set_option maxHeartbeats 16000000 in
theorem nums_ok {P : Nat → Prop} (w : World) (vl : Value) (L : List Int) (hL : RdI P w vl L) (hn : L.length ≤ 1000) (hb : ∀ x ∈ L, x ≤ 9223372036854775807) : Calls Try.prog 37 (denL [.v vl]).toArray w (NumsR w L) := by
  obtain ⟨ad, cp, rfl⟩ := hL.slice
  refine enter (F := frame0 w) Try.func37 rfl [.v (.slice ad L.length cp)] [] (by simp [Try.f37]) trivial (keeps0 w) fun a hr => ?_
  refine seg cfg37_ok mixed PanicFree.body 1000 [] [] hr (by first | trivial | exact HpRep.nil | assumption) (by kernel_rfl) fun s_ hs_ => ?_
  simp (maxSteps := 10000000) [SX.vc, SX.stop, SX.contS, SX.sxStep, SX.stepPure, SX.guardIx, SX.evOp, SX.opd, SX.opds, SX.look, SX.putS, SX.gobs, SX.AllP, SX.leave, SX.lookT, SX.evBuiltin, SX.env0, cfg37, Try.f37]
  refine ⟨by (unfold SX.Ob; first | trivial | omega | ((try simp only [SX.inK]); (try simp [SX.den, SX.IsU8, SX.AllP, *]); (try omega))), ?_⟩
  intro a1 w1 hr1 _
  refine post_loop (NumsLoop w (.slice ad L.length cp) L) L.length ⟨0, .slice none 0 0, rfl, by omega, by omega, by simp [putAll], OwS.nil, hr1.re (by simp [envTo, SX.look]) trivial rfl rfl⟩ ?_
  rintro m a2 w2 ⟨k, v, rfl, hk, hpos, hlen, hO, hr2⟩
  obtain ⟨av, cv, rfl⟩ := hO.slice
  have z2 : w.heap.size ≤ w2.heap.size := hr2.keeps.size
  by_cases hlt : k < L.length
  rotate_left
  · obtain rfl : k = L.length := by omega
    rw [List.take_length] at hO hr2
    refine seg cfg37_ok mixed PanicFree.body 1000 [false] [] hr2.rebase (by first | trivial | exact HpRep.nil | assumption) (by kernel_rfl) fun s_ hs_ => ?_
    simp (maxSteps := 10000000) [SX.vc, SX.stop, SX.contS, SX.contB, SX.contW, SX.sxStep, SX.stepPure, SX.guardIx, SX.evOp, SX.opd, SX.look, SX.putS, SX.gobs, SX.AllP, SX.leave, SX.evBin, SX.evInt, SX.popTo, cfg37]
    refine ⟨by (unfold SX.Ob; first | trivial | omega | ((try simp only [SX.inK]); (try simp [SX.den, SX.IsU8, SX.AllP, *]); (try omega))), ?_⟩
    intro a3 w3 hr3' _
    have hr3 := hr2.unbase hr3'
    exact post_retn (end2 hr3 rfl rfl rfl ⟨.slice av (putAll L).length cv, hr3.keeps.toBelow, .inl ⟨fun x hx => by
      obtain ⟨j, hj, rfl⟩ := List.mem_iff_getElem.1 hx
      rw [← nth_lt (d := (0 : Int)) hj]
      exact hpos j hj, rfl, hO.keep hr3'.keeps (by simp [mutB])⟩⟩).1
  obtain ⟨b, o0, cap, u, fz, hP, hv, hrep⟩ := hL.opn hlt
  cases hv
  have hrep2 := SO.rep_same hrep (hr2.keeps.toBelow.block _ (SO.rep_lt hrep))
  obtain ⟨x, hx⟩ : ∃ x, nth (0 : Int) L k = x := ⟨_, rfl⟩
  have hxb := hb x (hx ▸ nth_mem hlt)
  have h3 := (hr2.top 7 (.sl 0 b o0 0 L.length cp 1) rfl (by simp [den])).see [(b, false, .arr o0 L.length (fun j => L6.intC (nth (0 : Int) L j)) 1 u fz)] (HpAll.one hrep2)
  by_cases h0 : x < 0
  · refine seg cfg37_ok mixed PanicFree.body 1000 [true, true] [] h3 (by first | trivial | exact HpRep.nil | assumption) (by kernel_rfl) fun s_ hs_ => ?_
    simp (maxSteps := 10000000) [SX.vc, SX.stop, SX.contS, SX.contB, SX.sxStep, SX.stepPure, SX.guardIx, SX.evOp, SX.opd, SX.look, SX.putS, SX.gobs, SX.AllP, SX.leave, SX.lookT, SX.evBin, SX.evInt, SX.evLoad, SX.shapeUp, SX.evIndexAddr, SX.TD.isAgg, cfg37, L6.intC, hx, h0]
    refine ⟨by (unfold SX.Ob; first | trivial | omega | ((try simp only [SX.inK]); (try simp [SX.den, SX.IsU8, SX.AllP, *]); (try omega))), ?_⟩
    intro a4 w4 hr4 _
    exact post_retn (end2 hr4 rfl rfl rfl ⟨.slice none 0 0, hr4.keeps.toBelow, .inr ⟨fun h => by
      have := h x (hx ▸ nth_mem hlt)
      omega, rfl⟩⟩).1
  obtain ⟨n, hnx⟩ : ∃ n : Nat, x = n := ⟨x.toNat, by omega⟩
  subst hnx
  have hwr : IntKind.u64.wrap (n : Int) = n := IntWalk.u64_in _ (by omega)
  refine seg cfg37_ok mixed PanicFree.body 1000 [true, false] [] h3.rebase (by first | trivial | exact HpRep.nil | assumption) (by kernel_rfl) fun s_ hs_ => ?_
  simp (maxSteps := 10000000) [SX.vc, SX.stop, SX.contS, SX.contB, SX.sxStep, SX.stepPure, SX.stepNew, SX.stepStore, SX.guardIx, SX.evOp, SX.opd, SX.look, SX.putS, SX.gobs, SX.AllP, SX.leave, SX.lookT, SX.evBin, SX.evInt, SX.evLoad, SX.shapeUp, SX.evIndexAddr, SX.evNew, SX.evStore, SX.evConv, SX.TD.isAgg, SX.evConvH, cfg37, L6.intC, hx, h0, hwr]
  refine ⟨by (unfold SX.Ob; first | trivial | omega | ((try simp only [SX.inK]); (try simp [SX.den, SX.IsU8, SX.AllP, *]); (try omega))), ?_⟩
  intro a4 w4 hr4' _
  have hr4 := h3.unbase hr4'
  have hO4 := hO.keep hr4'.keeps (by simp [mutB])
  refine post_call 64 [.v (.int .u64 n)] hr4 (wanted_none rfl) rfl (callable 64 Try.func64) (put_ok w4 n (by omega)) ?_
  rintro e5 w5 ⟨v5, rfl, hP5, hb5⟩
  refine ⟨_, rfl, ?_⟩
  have hr5 := hr4.ret hb5 18 (.v v5) rfl _ (hr4.all.below hb5) (by simp) rfl
  have hpl := put_len 9 n (by
    have : (128 : Nat) ^ (9 + 1) = 1180591620717411303424 := by decide
    omega)
  have hO5 := hO4.below hb5
  have z5 : w.heap.size ≤ w5.heap.size := hr5.keeps.size
  refine post_app (C := cfg37) cfg37_ok hr5 (by first | exact wanted_none rfl | exact wanted_zero (hr5.env.same rfl rfl rfl rfl) rfl (by simp)) rfl (by simp) rfl rfl rfl rfl rfl rfl rfl rfl rfl (by decide) (flatU _) (by (try simp only [List.length_append]); omega) (fun x hx => Nat.le_trans z5 hx) hO5 hP5.rd [] (fun _ _ _ _ => trivial) (fun x hx => .inl hx) fun V6 a6 w6 B6 hO6 hB6 hk6 hr6 => ?_
  have ht : putAll (L.take (k + 1)) = putAll (L.take k) ++ put n := by
    rw [take_nth (d := (0 : Int)) hlt, hx, putAll_snoc]
    rfl
  rw [← ht] at hO6
  obtain ⟨a6', c6, rfl⟩ := hO6.slice
  have hl6 : (putAll (L.take (k + 1))).length ≤ 10 * (k + 1) := by
    rw [ht, List.length_append]
    omega
  refine seg cfg37_ok mixed PanicFree.body 1000 [] [] hr6.rebase (by first | trivial | exact HpRep.nil | assumption) (by kernel_rfl) fun s_ hs_ => ?_
  simp (maxSteps := 10000000) [SX.vc, SX.stop, SX.contS, SX.sxStep, SX.stepPure, SX.guardIx, SX.evOp, SX.opd, SX.look, SX.putS, SX.gobs, SX.AllP, SX.leave, SX.evBin, SX.evInt, SX.arith, cfg37]
  refine ⟨by (unfold SX.Ob; first | trivial | omega | ((try simp only [SX.inK]); (try simp [SX.den, SX.IsU8, SX.AllP, *]); (try omega))), ?_⟩
  intro a7 w7 hr7' _
  have hr7 := hr6.unbase hr7'
  have hO7 : OwU (fun x => w.heap.size ≤ x) w7 (.slice a6' (putAll (L.take (k + 1))).length c6) (putAll (L.take (k + 1))) := hO6.keep hr7'.keeps (by simp [mutB])
  exact post_rnd (L.length - (k + 1)) (by omega) ⟨k + 1, _, rfl, hlt, fun j hj => (by
    rcases Nat.lt_or_ge j k with h | h
    · exact hpos j h
    · obtain rfl : j = k := by omega
      rw [hx]
      omega), hl6, hO7, hr7.re (by simp [envTo, SX.look, den]) trivial rfl rfl⟩
end Go.Proofs.C8
