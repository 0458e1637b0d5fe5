/- The law CrcBursts, walked. -/
import Derived.Test.YtcepnjkcdkkdpaaRK
namespace Go.Proofs
set_option linter.unusedVariables false
set_option linter.unusedSimpArgs false
open Go Go.SX Go.RowKit Go.Crc

theorem tmod_bounds (x : Int) (k : Nat) (h : 0 < k) : -(k : Int) < x.tmod k ∧ x.tmod k < k :=
  ⟨Int.lt_tmod_of_pos x (by omega), Int.tmod_lt_of_pos x (by omega)⟩

theorem wrapped_idx (x : Int) (k : Nat) (h : 0 < k) : ∃ i : Nat, (x.tmod k + k).tmod k = i ∧ i < k := by
  have h1 := tmod_bounds x k h
  have h2 := tmod_bounds (x.tmod k + k) k h
  have h3 : 0 ≤ (x.tmod k + k).tmod k := Int.tmod_nonneg _ (by omega)
  exact ⟨((x.tmod k + k).tmod k).toNat, by omega, by omega⟩

theorem wrapu64 (n : Nat) (h : n < 2 ^ 64) : IntKind.u64.wrap (n : Int) = n := by
  simp only [IntKind.wrap, IntKind.bits, IntKind.signed]
  simp
  omega

theorem bit_of (v : BitVec 32) (i : Nat) (h : i < 32) : bitv .and .u32 ((rv v).fdiv (2 ^ min i IntKind.u32.bits)) 1 = if v.getLsbD i then 1 else 0 := by
  rw [vsh v i (by omega), va1]
  have e : (v >>> i) &&& 1#32 = if v.getLsbD i then 1#32 else 0#32 := by
    apply BitVec.eq_of_getLsbD_eq
    intro q hq
    rw [BitVec.getLsbD_and, BitVec.getLsbD_ushiftRight]
    by_cases h0 : q = 0
    · subst h0
      cases hv : v.getLsbD i <;> simp [hv]
    · cases v.getLsbD i <;> simp [h0, BitVec.getLsbD_one]
  rw [e]
  cases v.getLsbD i <;> decide

theorem shl8 (r : Nat) (h : r < 8) : IntKind.u8.wrap (2 ^ min r IntKind.u8.bits) = bv (1#8 <<< r) := by
  rcases r with _ | _ | _ | _ | _ | _ | _ | _ | r
  all_goals first | decide | omega

theorem flip_bit (x : BitVec 8) (r q : Nat) (hr : r < 8) (hq : q < 8) : (x ^^^ (1#8 <<< r)).getLsbD q = (x.getLsbD q ^^ decide (q = r)) := by
  rw [BitVec.getLsbD_xor, BitVec.getLsbD_shiftLeft]
  congr 1
  by_cases h : q = r
  · subst h; simp [hq]
  · by_cases h2 : q < r
    · simp [h, h2]
    · have : q - r ≠ 0 := by omega
      simp [h, BitVec.getLsbD_one, this]

def BurstInv (g h : Nat → BitVec 8) (v : BitVec 32) (s n i : Nat) : Prop := ∀ j, j < n → ∀ q, q < 8 → (h j).getLsbD q = ((g j).getLsbD q ^^ (burst v s (8 * j + q) && decide (8 * j + q < s + i)))

def BurstLoop (w : World) (g : Nat → BitVec 8) (v : BitVec 32) (s n bb o0 N cap : Nat) (t : TypeId) (fz : Nat × Nat) (b' cap' : Nat) (u' : TypeId) (d : Nat) (a : Act) (w' : World) : Prop :=
  ∃ (i : Nat) (h : Nat → BitVec 8), d = 32 - i ∧ i ≤ 32 ∧ BurstInv g h v s n i ∧
    RepX (frame0 w) ⟨[(39, 0, .v (.int .i64 i)), (8, 0, .sl 1 b' 0 0 n cap' 1), (7, 0, .v (.bool true)), (2, 0, .v (.int .u32 (rv v))), (1, 0, .v (.int .i64 s)), (0, 0, .sl 0 bb o0 0 n cap 1)],
      [(bb, false, .arr o0 N (fun j => [.v (.int .u8 (bv (g j)))]) 1 t fz), (b', true, .arr 0 n (fun j => [.v (.int .u8 (bv (h j)))]) 1 u' (0, 0))], 0, 0, 83, [], [], []⟩ a w'

theorem burst_step_false {g h : Nat → BitVec 8} {v : BitVec 32} {s n i : Nat} (hi : BurstInv g h v s n i) (hb : 8 * n ≤ s + i ∨ v.getLsbD i = false) : BurstInv g h v s n (i + 1) := by
  intro j hj q hq
  rw [hi j hj q hq]
  congr 1
  by_cases hk : 8 * j + q = s + i
  · rcases hb with hb | hb
    · omega
    · have : burst v s (8 * j + q) = false := by
        unfold burst
        rw [hk, show s + i - s = i by omega, hb]; simp
      simp [this]
  · congr 1
    by_cases h2 : 8 * j + q < s + i
    · simp [h2, show 8 * j + q < s + (i + 1) by omega]
    · simp [h2, show ¬ 8 * j + q < s + (i + 1) by omega]

theorem burst_step_true {g h : Nat → BitVec 8} {v : BitVec 32} {s n i : Nat} (hi : BurstInv g h v s n i) (hk : s + i < 8 * n) (hb : v.getLsbD i = true) :
    BurstInv g (fun j => if j = (s + i) / 8 then h ((s + i) / 8) ^^^ (1#8 <<< ((s + i) % 8)) else h j) v s n (i + 1) := by
  intro j hj q hq
  have h8 := Nat.div_add_mod (s + i) 8
  have hm : (s + i) % 8 < 8 := Nat.mod_lt _ (by omega)
  by_cases hj2 : j = (s + i) / 8
  · subst hj2
    simp only [if_true]
    rw [flip_bit _ _ _ hm hq, hi _ hj q hq, Bool.xor_assoc]
    congr 1
    by_cases hq2 : q = (s + i) % 8
    · subst hq2
      rw [h8]
      have : burst v s (s + i) = true := by
        unfold burst
        rw [show s + i - s = i by omega, hb]; simp
      simp [this]
    · by_cases h2 : 8 * ((s + i) / 8) + q < s + i
      · simp [hq2, h2, show 8 * ((s + i) / 8) + q < s + (i + 1) by omega]
      · simp [hq2, h2, show ¬ 8 * ((s + i) / 8) + q < s + (i + 1) by omega]
  · simp only [if_neg hj2]
    rw [hi j hj q hq]
    congr 2
    by_cases h2 : 8 * j + q < s + i
    · simp [h2, show 8 * j + q < s + (i + 1) by omega]
    · simp [h2, show ¬ 8 * j + q < s + (i + 1) by omega]

theorem burst_end {g h : Nat → BitVec 8} {v : BitVec 32} {s n : Nat} (hi : BurstInv g h v s n 32) : ∀ j, j < n → ∀ q, q < 8 → (h j).getLsbD q = ((g j).getLsbD q ^^ burst v s (8 * j + q)) := by
  intro j hj q hq
  rw [hi j hj q hq]
  by_cases h2 : 8 * j + q < s + 32
  · simp [h2]
  · have : burst v s (8 * j + q) = false := by
      unfold burst
      rw [BitVec.getLsbD_of_ge v _ (by omega)]; simp
    simp [this]

set_option maxRecDepth 100000 in
set_option maxHeartbeats 8000000 in
theorem bursts_nil (w : World) (ad : Option Addr) (cap : Nat) (x : Int) (v : BitVec 32) : Calls Try.prog 3 (denL [.v (.slice ad 0 cap), .v (.int .i64 x), .v (.int .u32 (rv v))]).toArray w (LivePost w) := by
  refine enter (F := frame0 w) Try.func3 rfl [.v (.slice ad 0 cap), .v (.int .i64 x), .v (.int .u32 (rv v))] [] (by simp [Try.f3]) trivial (keeps0 w) fun a hr => ?_
  refine seg cfg3_ok mixed PanicFree.body 1000 [] [] hr (by first | trivial | exact HpRep.nil | assumption) (by kernel_rfl) fun s_ hs_ => ?_
  simp (maxSteps := 10000000) [SX.vc, SX.stop, SX.contS, SX.contB, SX.contW, SX.contR, SX.contD, SX.sxStep, SX.stepPure, SX.stepNew, SX.stepStore, SX.stepKeep, SX.guardIx, SX.evOp, SX.opd, SX.opds, SX.optOpd, SX.look, SX.putS, SX.gobs, SX.AllP, SX.leave, SX.lookC, SX.lookB, SX.lookT, SX.lookN, SX.findK, SX.evBuiltin, SX.ints, SX.foldI, SX.evBin, SX.evInt, SX.evStr, SX.evEq, SX.arith, SX.evLoad, SX.shapeUp, SX.evFieldAddr, SX.evField, SX.evIndexAddr, SX.evIndex, SX.evFill, SX.evBuild, SX.szs, SX.cellsV, SX.evNew, SX.evStore, SX.spliceL, SX.SV.cells, SX.evConv, SX.evSlice, SX.bnd, SX.evNil, SX.evUn, SX.evPick, SX.pickOpd, SX.popTo, SX.cnd, SX.env0, SX.TD.isAgg, SX.TD.isIface, SX.tails, SX.NotAgg, SX.evLookup, SX.evConvH, SX.evPtrEq, SX.isCells, Go.Value.cells, cfg3, Try.f3]
  refine ⟨by (unfold SX.Ob; first | trivial | omega | ((try simp only [SX.inK]); (try simp [SX.den, SX.IsU8, *]); (try omega))), ?_⟩
  intro a1 w1 hr1 _
  refine post_call 8 [] hr1 (wanted_none rfl) rfl (callable 8 Try.func8) (live_ok w1) ?_
  rintro e w2 ⟨rfl, hb2⟩
  refine ⟨_, rfl, ?_⟩
  have h2 := hr1.ret hb2 12 (.v (.bool true)) rfl [] trivial (by simp) rfl
  refine seg cfg3_ok mixed PanicFree.body 1000 [] [] h2 (by first | trivial | exact HpRep.nil | assumption) (by kernel_rfl) fun s_ hs_ => ?_
  simp (maxSteps := 10000000) [SX.vc, SX.stop, SX.contS, SX.contB, SX.contW, SX.contR, SX.contD, SX.sxStep, SX.stepPure, SX.stepNew, SX.stepStore, SX.stepKeep, SX.guardIx, SX.evOp, SX.opd, SX.opds, SX.optOpd, SX.look, SX.putS, SX.gobs, SX.AllP, SX.leave, SX.lookC, SX.lookB, SX.lookT, SX.lookN, SX.findK, SX.evBuiltin, SX.ints, SX.foldI, SX.evBin, SX.evInt, SX.evStr, SX.evEq, SX.arith, SX.evLoad, SX.shapeUp, SX.evFieldAddr, SX.evField, SX.evIndexAddr, SX.evIndex, SX.evFill, SX.evBuild, SX.szs, SX.cellsV, SX.evNew, SX.evStore, SX.spliceL, SX.SV.cells, SX.evConv, SX.evSlice, SX.bnd, SX.evNil, SX.evUn, SX.evPick, SX.pickOpd, SX.popTo, SX.cnd, SX.env0, SX.TD.isAgg, SX.TD.isIface, SX.tails, SX.NotAgg, SX.evLookup, SX.evConvH, SX.evPtrEq, SX.isCells, Go.Value.cells, cfg3]
  refine ⟨by (unfold SX.Ob; first | trivial | omega | ((try simp only [SX.inK]); (try simp [SX.den, SX.IsU8, *]); (try omega))), ?_⟩
  intro a3 w3 hr3 _
  have hL : LB w3 (.slice (some ⟨s_, 0, none⟩) 1 1) 1 (fun _ => 0) := .inr ⟨by omega, s_, 0, 1, 1, 22, (0, 0), fun _ => .slice ad 0 cap, rfl, Nat.le_refl _, rep_arr_sub hr3.all.1.1 (Nat.le_refl _) fun j hj => (by
    obtain rfl : j = 0 := by omega
    rfl), fun j hj => ⟨_, _, rfl⟩⟩
  refine post_call 9 [.sl 0 s_ 0 0 1 1 1] hr3 (wanted_none rfl) rfl (callable 9 Try.func9) (big_ok w3 _ 1 _ hL (by omega)) ?_
  rintro e w4 ⟨he, hb4⟩
  rw [bigX_one (by simp)] at he
  have he' : e = .returned (.bool false) := by rw [he]; rfl
  subst he'
  clear he
  refine ⟨_, rfl, ?_⟩
  have h4 := hr3.ret hb4 15 (.v (.bool false)) rfl [] trivial (by simp) rfl
  refine seg cfg3_ok mixed PanicFree.body 1000 [true] [(16, false)] h4 (by first | trivial | exact HpRep.nil | assumption) (by kernel_rfl) fun s_ hs_ => ?_
  simp (maxSteps := 10000000) [SX.vc, SX.stop, SX.contS, SX.contB, SX.contW, SX.contR, SX.contD, SX.sxStep, SX.stepPure, SX.stepNew, SX.stepStore, SX.stepKeep, SX.guardIx, SX.evOp, SX.opd, SX.opds, SX.optOpd, SX.look, SX.putS, SX.gobs, SX.AllP, SX.leave, SX.lookC, SX.lookB, SX.lookT, SX.lookN, SX.findK, SX.evBuiltin, SX.ints, SX.foldI, SX.evBin, SX.evInt, SX.evStr, SX.evEq, SX.arith, SX.evLoad, SX.shapeUp, SX.evFieldAddr, SX.evField, SX.evIndexAddr, SX.evIndex, SX.evFill, SX.evBuild, SX.szs, SX.cellsV, SX.evNew, SX.evStore, SX.spliceL, SX.SV.cells, SX.evConv, SX.evSlice, SX.bnd, SX.evNil, SX.evUn, SX.evPick, SX.pickOpd, SX.popTo, SX.cnd, SX.env0, SX.TD.isAgg, SX.TD.isIface, SX.tails, SX.NotAgg, SX.evLookup, SX.evConvH, SX.evPtrEq, SX.isCells, Go.Value.cells, cfg3]
  refine ⟨by (unfold SX.Ob; first | trivial | omega | ((try simp only [SX.inK]); (try simp [SX.den, SX.IsU8, *]); (try omega))), ?_⟩
  intro a5 w5 hr5 _
  exact post_retn (end1 hr5 rfl rfl ⟨rfl, hr5.keeps.toBelow⟩).1

set_option maxRecDepth 100000 in
set_option maxHeartbeats 16000000 in
theorem bursts_some (w : World) (x : Int) (hx : inK x) (v0 : BitVec 32) (bb o0 N n cap : Nat) (g : Nat → BitVec 8) (t : TypeId) (fz : Nat × Nat) (hb : (SO.arr o0 N (fun j => [.v (.int .u8 (bv (g j)))]) 1 t fz).rep w bb) (h0 : 0 < n) (hN : n ≤ N) (hn : n ≤ 140737488351232) :
    Calls Try.prog 3 (denL [.sl 0 bb o0 0 n cap 1, .v (.int .i64 x), .v (.int .u32 (rv v0))]).toArray w (LivePost w) := by
  have hE : HpAll (frame0 w) w [(bb, false, .arr o0 N (fun j => [.v (.int .u8 (bv (g j)))]) 1 t fz)] := ⟨⟨hb, by simp, by simp⟩, trivial⟩
  refine enter (F := frame0 w) Try.func3 rfl [.sl 0 bb o0 0 n cap 1, .v (.int .i64 x), .v (.int .u32 (rv v0))] _ (by simp [Try.f3]) hE (keeps0 w) fun a hr => ?_
  refine seg cfg3_ok mixed PanicFree.body 1000 [] [] hr (by first | trivial | exact HpRep.nil | assumption) (by kernel_rfl) fun s_ hs_ => ?_
  simp (maxSteps := 10000000) [SX.vc, SX.stop, SX.contS, SX.contB, SX.contW, SX.contR, SX.contD, SX.sxStep, SX.stepPure, SX.stepNew, SX.stepStore, SX.stepKeep, SX.guardIx, SX.evOp, SX.opd, SX.opds, SX.optOpd, SX.look, SX.putS, SX.gobs, SX.AllP, SX.leave, SX.lookC, SX.lookB, SX.lookT, SX.lookN, SX.findK, SX.evBuiltin, SX.ints, SX.foldI, SX.evBin, SX.evInt, SX.evStr, SX.evEq, SX.arith, SX.evLoad, SX.shapeUp, SX.evFieldAddr, SX.evField, SX.evIndexAddr, SX.evIndex, SX.evFill, SX.evBuild, SX.szs, SX.cellsV, SX.evNew, SX.evStore, SX.spliceL, SX.SV.cells, SX.evConv, SX.evSlice, SX.bnd, SX.evNil, SX.evUn, SX.evPick, SX.pickOpd, SX.popTo, SX.cnd, SX.env0, SX.TD.isAgg, SX.TD.isIface, SX.tails, SX.NotAgg, SX.evLookup, SX.evConvH, SX.evPtrEq, SX.isCells, Go.Value.cells, cfg3, Try.f3]
  refine ⟨by (unfold SX.Ob; first | trivial | omega | ((try simp only [SX.inK]); (try simp [SX.den, SX.IsU8, *]); (try omega))), ?_⟩
  intro a1 w1 hr1 _
  refine post_call 8 [] hr1 (wanted_none rfl) rfl (callable 8 Try.func8) (live_ok w1) ?_
  rintro e w2 ⟨rfl, hb2⟩
  refine ⟨_, rfl, ?_⟩
  have h2 := hr1.ret hb2 12 (.v (.bool true)) rfl _ (hr1.all.below hb2) (by simp) rfl
  refine seg cfg3_ok mixed PanicFree.body 1000 [] [] h2 (by first | trivial | exact HpRep.nil | assumption) (by kernel_rfl) fun s_ hs_ => ?_
  simp (maxSteps := 10000000) [SX.vc, SX.stop, SX.contS, SX.contB, SX.contW, SX.contR, SX.contD, SX.sxStep, SX.stepPure, SX.stepNew, SX.stepStore, SX.stepKeep, SX.guardIx, SX.evOp, SX.opd, SX.opds, SX.optOpd, SX.look, SX.putS, SX.gobs, SX.AllP, SX.leave, SX.lookC, SX.lookB, SX.lookT, SX.lookN, SX.findK, SX.evBuiltin, SX.ints, SX.foldI, SX.evBin, SX.evInt, SX.evStr, SX.evEq, SX.arith, SX.evLoad, SX.shapeUp, SX.evFieldAddr, SX.evField, SX.evIndexAddr, SX.evIndex, SX.evFill, SX.evBuild, SX.szs, SX.cellsV, SX.evNew, SX.evStore, SX.spliceL, SX.SV.cells, SX.evConv, SX.evSlice, SX.bnd, SX.evNil, SX.evUn, SX.evPick, SX.pickOpd, SX.popTo, SX.cnd, SX.env0, SX.TD.isAgg, SX.TD.isIface, SX.tails, SX.NotAgg, SX.evLookup, SX.evConvH, SX.evPtrEq, SX.isCells, Go.Value.cells, cfg3]
  refine ⟨by (unfold SX.Ob; first | trivial | omega | ((try simp only [SX.inK]); (try simp [SX.den, SX.IsU8, *]); (try omega))), ?_⟩
  intro a3 w3 hr3 _
  have hL : LB w3 (.slice (some ⟨s_, 0, none⟩) 1 1) 1 (fun _ => n) := .inr ⟨by omega, s_, 0, 1, 1, 22, (0, 0), fun _ => .slice (some ⟨bb, o0, none⟩) n cap, rfl, Nat.le_refl _, rep_arr_sub hr3.all.2.1.1 (Nat.le_refl _) fun j hj => (by
    obtain rfl : j = 0 := by omega
    rfl), fun j hj => ⟨_, _, rfl⟩⟩
  refine post_call 9 [.sl 1 s_ 0 0 1 1 1] hr3 (wanted_none rfl) rfl (callable 9 Try.func9) (big_ok w3 _ 1 _ hL (by omega)) ?_
  rintro e w4 ⟨he, hb4⟩
  rw [bigX_one (by show n ≤ _; omega)] at he
  subst he
  refine ⟨_, rfl, ?_⟩
  have h4 := hr3.ret hb4 15 (.v (.bool (decide ((n : Int) + 1 > 20000)))) rfl [(bb, false, .arr o0 N (fun j => [.v (.int .u8 (bv (g j)))]) 1 t fz)] ⟨(hr3.all.below hb4).1.1 |> fun h => ⟨h, by simp, by simp⟩, trivial⟩ (by simp) rfl
  by_cases hbig : (n : Int) + 1 > 20000
  · refine seg cfg3_ok mixed PanicFree.body 1000 [true] [(16, true)] h4 (by first | trivial | exact HpRep.nil | assumption) (by kernel_rfl) fun s_ hs_ => ?_
    simp (maxSteps := 10000000) [SX.vc, SX.stop, SX.contS, SX.contB, SX.contW, SX.contR, SX.contD, SX.sxStep, SX.stepPure, SX.stepNew, SX.stepStore, SX.stepKeep, SX.guardIx, SX.evOp, SX.opd, SX.opds, SX.optOpd, SX.look, SX.putS, SX.gobs, SX.AllP, SX.leave, SX.lookC, SX.lookB, SX.lookT, SX.lookN, SX.findK, SX.evBuiltin, SX.ints, SX.foldI, SX.evBin, SX.evInt, SX.evStr, SX.evEq, SX.arith, SX.evLoad, SX.shapeUp, SX.evFieldAddr, SX.evField, SX.evIndexAddr, SX.evIndex, SX.evFill, SX.evBuild, SX.szs, SX.cellsV, SX.evNew, SX.evStore, SX.spliceL, SX.SV.cells, SX.evConv, SX.evSlice, SX.bnd, SX.evNil, SX.evUn, SX.evPick, SX.pickOpd, SX.popTo, SX.cnd, SX.env0, SX.TD.isAgg, SX.TD.isIface, SX.tails, SX.NotAgg, SX.evLookup, SX.evConvH, SX.evPtrEq, SX.isCells, Go.Value.cells, cfg3, hbig]
    refine ⟨by (unfold SX.Ob; first | trivial | omega | ((try simp only [SX.inK]); (try simp [SX.den, SX.IsU8, *]); (try omega))), ?_⟩
    intro a5 w5 hr5 _
    exact post_retn (end1 hr5 rfl rfl ⟨rfl, hr5.keeps.toBelow⟩).1
  have hn0 : n ≠ 0 := by omega
  obtain ⟨hx1, hx2⟩ := tmod_bounds x (8 * n) (by omega)
  obtain ⟨s, hs, hs2⟩ := wrapped_idx x (8 * n) (by omega)
  simp only [Int.natCast_mul, Int.cast_ofNat_Int] at hx1 hx2 hs
  refine seg cfg3_ok mixed PanicFree.body 1000 [false] [(16, false)] h4 (by first | trivial | exact HpRep.nil | assumption) (by kernel_rfl) fun s_ hs_ => ?_
  simp (maxSteps := 10000000) [SX.vc, SX.stop, SX.contS, SX.contB, SX.contW, SX.contR, SX.contD, SX.sxStep, SX.stepPure, SX.stepNew, SX.stepStore, SX.stepKeep, SX.guardIx, SX.evOp, SX.opd, SX.opds, SX.optOpd, SX.look, SX.putS, SX.gobs, SX.AllP, SX.leave, SX.lookC, SX.lookB, SX.lookT, SX.lookN, SX.findK, SX.evBuiltin, SX.ints, SX.foldI, SX.evBin, SX.evInt, SX.evStr, SX.evEq, SX.arith, SX.evLoad, SX.shapeUp, SX.evFieldAddr, SX.evField, SX.evIndexAddr, SX.evIndex, SX.evFill, SX.evBuild, SX.szs, SX.cellsV, SX.evNew, SX.evStore, SX.spliceL, SX.SV.cells, SX.evConv, SX.evSlice, SX.bnd, SX.evNil, SX.evUn, SX.evPick, SX.pickOpd, SX.popTo, SX.cnd, SX.env0, SX.TD.isAgg, SX.TD.isIface, SX.tails, SX.NotAgg, SX.evLookup, SX.evConvH, SX.evPtrEq, SX.isCells, Go.Value.cells, cfg3, hbig, hn0, vo1, hs]
  refine ⟨by (unfold SX.Ob; first | trivial | omega | ((try simp only [SX.inK]); (try simp [SX.den, SX.IsU8, *]); (try omega))), ?_⟩
  intro a5 w5 hr5 _
  obtain ⟨v, hv⟩ : ∃ v, v = v0 ||| 1#32 := ⟨_, rfl⟩
  have hv0 : v.getLsbD 0 = true := by rw [hv, BitVec.getLsbD_or]; simp
  rw [← hv] at hr5
  clear hr h2 hr1 hr3 h4 hx1 hx2 hs hv hE
  refine post_append cfg3_ok hr5 rfl (d := 38) rfl (by simp) rfl rfl (t := 22) (t' := 22) rfl rfl rfl rfl rfl rfl (by decide) (j := 0) rfl rfl (base2 := 0) (by omega) (.inl ⟨rfl, rfl, rfl, rfl⟩) (b := 0) (N := 0) (row := fun _ => []) (u := 0) h0 (by show (2 * (0 + n) + 192) * 1 ≤ 281474976710656; omega) (fun j hj z hz => ?_) ?_
  · simp at hz; subst hz; trivial
  intro a6 w6 b' cap' N' row' u' hc1 hc2 hrow0 hrow1 hb' hr6
  refine seg cfg3_ok mixed PanicFree.body 1000 [] [] hr6 (by first | trivial | exact HpRep.nil | assumption) (by kernel_rfl) fun s_ hs_ => ?_
  simp (maxSteps := 10000000) [SX.vc, SX.stop, SX.contS, SX.contB, SX.contW, SX.contR, SX.contD, SX.sxStep, SX.stepPure, SX.stepNew, SX.stepStore, SX.stepKeep, SX.guardIx, SX.evOp, SX.opd, SX.opds, SX.optOpd, SX.look, SX.putS, SX.gobs, SX.AllP, SX.leave, SX.lookC, SX.lookB, SX.lookT, SX.lookN, SX.findK, SX.evBuiltin, SX.ints, SX.foldI, SX.evBin, SX.evInt, SX.evStr, SX.evEq, SX.arith, SX.evLoad, SX.shapeUp, SX.evFieldAddr, SX.evField, SX.evIndexAddr, SX.evIndex, SX.evFill, SX.evBuild, SX.szs, SX.cellsV, SX.evNew, SX.evStore, SX.spliceL, SX.SV.cells, SX.evConv, SX.evSlice, SX.bnd, SX.evNil, SX.evUn, SX.evPick, SX.pickOpd, SX.popTo, SX.cnd, SX.env0, SX.TD.isAgg, SX.TD.isIface, SX.tails, SX.NotAgg, SX.evLookup, SX.evConvH, SX.evPtrEq, SX.isCells, Go.Value.cells, cfg3]
  refine ⟨by (unfold SX.Ob; first | trivial | omega | ((try simp only [SX.inK]); (try simp [SX.den, SX.IsU8, *]); (try omega))), ?_⟩
  intro a7 w7 hr7 _
  have hA7 := hr7.all
  have hbb : bb ≠ b' := by have := hA7.1.2.2 (b', true, .arr 0 N' row' 1 u' (0, 0)) (by simp); simpa using this
  refine post_loop (BurstLoop w g v s n bb o0 N cap t fz b' cap' u') 32 ⟨0, g, rfl, by omega, fun j hj q hq => by
      by_cases h2 : 8 * j + q < s
      · have : burst v s (8 * j + q) = false := by unfold burst; simp; omega
        simp [this]
      · simp [h2], hr7.re (by simp [envTo, SX.look]) ⟨⟨hA7.1.1, by simp, by simpa using hbb⟩, ⟨rep_arr_sub hA7.2.1.1 (by omega) fun j hj => by have := hrow1 j hj; simp at this; rw [this], hA7.2.1.2.1, by simp⟩, trivial⟩ rfl rfl⟩ ?_
  clear hr6 hr7 hA7 hr5
  rintro d a8 w8 ⟨i, h, rfl, hi, hI, hr8⟩
  by_cases hlt : i < 32
  · by_cases hk : s + i < 8 * n
    · have hwu := wrapu64 i (by omega)
      have hbit := bit_of v i hlt
      cases hvb : v.getLsbD i with
      | false =>
        rw [hvb] at hbit
        simp only [Bool.false_eq_true, if_false] at hbit
        refine seg cfg3_ok mixed PanicFree.body 1000 [true, false] [(50, true)] hr8 (by first | trivial | exact HpRep.nil | assumption) (by kernel_rfl) fun s_ hs_ => ?_
        simp (maxSteps := 10000000) [SX.vc, SX.stop, SX.contS, SX.contB, SX.contW, SX.contR, SX.contD, SX.sxStep, SX.stepPure, SX.stepNew, SX.stepStore, SX.stepKeep, SX.guardIx, SX.evOp, SX.opd, SX.opds, SX.optOpd, SX.look, SX.putS, SX.gobs, SX.AllP, SX.leave, SX.lookC, SX.lookB, SX.lookT, SX.lookN, SX.findK, SX.evBuiltin, SX.ints, SX.foldI, SX.evBin, SX.evInt, SX.evStr, SX.evEq, SX.arith, SX.evLoad, SX.shapeUp, SX.evFieldAddr, SX.evField, SX.evIndexAddr, SX.evIndex, SX.evFill, SX.evBuild, SX.szs, SX.cellsV, SX.evNew, SX.evStore, SX.spliceL, SX.SV.cells, SX.evConv, SX.evSlice, SX.bnd, SX.evNil, SX.evUn, SX.evPick, SX.pickOpd, SX.popTo, SX.cnd, SX.env0, SX.TD.isAgg, SX.TD.isIface, SX.tails, SX.NotAgg, SX.evLookup, SX.evConvH, SX.evPtrEq, SX.isCells, Go.Value.cells, cfg3, hwu, hbit]
        refine ⟨by (unfold SX.Ob; first | trivial | omega | ((try simp only [SX.inK]); (try simp [SX.den, SX.IsU8, *]); (try omega))), ?_⟩
        intro a9 w9 hr9 _
        exact post_rnd (32 - (i + 1)) (by omega) ⟨i + 1, h, rfl, hlt, burst_step_false hI (.inr hvb), hr9.re (by simp [envTo, SX.look, den]) hr9.all rfl rfl⟩
      | true =>
        rw [hvb] at hbit
        simp only [if_true] at hbit
        have hm : (s + i) % 8 < 8 := Nat.mod_lt _ (by omega)
        have hJ : ((s : Int) + i).tdiv 8 = (((s + i) / 8 : Nat) : Int) := by rw [Int.tdiv_eq_ediv_of_nonneg (by omega)]; omega
        have hr : ((s : Int) + i).tmod 8 = (((s + i) % 8 : Nat) : Int) := by rw [Int.tmod_eq_emod_of_nonneg (by omega)]; omega
        have hjn : (s + i) / 8 < n := by omega
        obtain ⟨J, hJJ⟩ : ∃ J, J = (s + i) / 8 := ⟨_, rfl⟩
        obtain ⟨r, hrr⟩ : ∃ r, r = (s + i) % 8 := ⟨_, rfl⟩
        rw [← hJJ] at hJ hjn
        rw [← hrr] at hr hm
        have hwr := wrapu64 r (by omega)
        have hsh := shl8 r hm
        have hst := burst_step_true hI hk hvb
        rw [← hJJ, ← hrr] at hst
        clear hJJ hrr
        refine seg cfg3_ok mixed PanicFree.body 1000 [true, true] [(50, true)] hr8 (by first | trivial | exact HpRep.nil | assumption) (by kernel_rfl) fun s_ hs_ => ?_
        simp (maxSteps := 10000000) [SX.vc, SX.stop, SX.contS, SX.contB, SX.contW, SX.contR, SX.contD, SX.sxStep, SX.stepPure, SX.stepNew, SX.stepStore, SX.stepKeep, SX.guardIx, SX.evOp, SX.opd, SX.opds, SX.optOpd, SX.look, SX.putS, SX.gobs, SX.AllP, SX.leave, SX.lookC, SX.lookB, SX.lookT, SX.lookN, SX.findK, SX.evBuiltin, SX.ints, SX.foldI, SX.evBin, SX.evInt, SX.evStr, SX.evEq, SX.arith, SX.evLoad, SX.shapeUp, SX.evFieldAddr, SX.evField, SX.evIndexAddr, SX.evIndex, SX.evFill, SX.evBuild, SX.szs, SX.cellsV, SX.evNew, SX.evStore, SX.spliceL, SX.SV.cells, SX.evConv, SX.evSlice, SX.bnd, SX.evNil, SX.evUn, SX.evPick, SX.pickOpd, SX.popTo, SX.cnd, SX.env0, SX.TD.isAgg, SX.TD.isIface, SX.tails, SX.NotAgg, SX.evLookup, SX.evConvH, SX.evPtrEq, SX.isCells, Go.Value.cells, cfg3, hwu, hbit, hJ, hr, hwr, hsh, vx8]
        refine ⟨by (unfold SX.Ob; first | trivial | omega | ((try simp only [SX.inK]); (try simp [SX.den, SX.IsU8, *]); (try omega))), ?_⟩
        intro a9 w9 hr9 _
        exact post_rnd (32 - (i + 1)) (by omega) ⟨i + 1, _, rfl, hlt, hst, hr9.re (by simp [envTo, SX.look, den]) ⟨⟨hr9.all.1.1, by simp, by simpa using hbb⟩, ⟨rep_arr_sub hr9.all.2.1.1 (Nat.le_refl _) fun j hj => by
          by_cases hjj : j = J
          · subst hjj; simp [setRow, spliceL]
          · simp [setRow, hjj], hr9.all.2.1.2.1, by simp⟩, trivial⟩ rfl rfl⟩
    · refine seg cfg3_ok mixed PanicFree.body 1000 [true, false] [(50, false)] hr8 (by first | trivial | exact HpRep.nil | assumption) (by kernel_rfl) fun s_ hs_ => ?_
      simp (maxSteps := 10000000) [SX.vc, SX.stop, SX.contS, SX.contB, SX.contW, SX.contR, SX.contD, SX.sxStep, SX.stepPure, SX.stepNew, SX.stepStore, SX.stepKeep, SX.guardIx, SX.evOp, SX.opd, SX.opds, SX.optOpd, SX.look, SX.putS, SX.gobs, SX.AllP, SX.leave, SX.lookC, SX.lookB, SX.lookT, SX.lookN, SX.findK, SX.evBuiltin, SX.ints, SX.foldI, SX.evBin, SX.evInt, SX.evStr, SX.evEq, SX.arith, SX.evLoad, SX.shapeUp, SX.evFieldAddr, SX.evField, SX.evIndexAddr, SX.evIndex, SX.evFill, SX.evBuild, SX.szs, SX.cellsV, SX.evNew, SX.evStore, SX.spliceL, SX.SV.cells, SX.evConv, SX.evSlice, SX.bnd, SX.evNil, SX.evUn, SX.evPick, SX.pickOpd, SX.popTo, SX.cnd, SX.env0, SX.TD.isAgg, SX.TD.isIface, SX.tails, SX.NotAgg, SX.evLookup, SX.evConvH, SX.evPtrEq, SX.isCells, Go.Value.cells, cfg3]
      refine ⟨by (unfold SX.Ob; first | trivial | omega | ((try simp only [SX.inK]); (try simp [SX.den, SX.IsU8, *]); (try omega))), ?_⟩
      intro a9 w9 hr9 _
      exact post_rnd (32 - (i + 1)) (by omega) ⟨i + 1, h, rfl, hlt, burst_step_false hI (.inl (by omega)), hr9.re (by simp [envTo, SX.look, den]) hr9.all rfl rfl⟩
  obtain rfl : i = 32 := by omega
  have hne := go_burst ones g h v hv0 s n hs2 (burst_end hI)
  clear hI
  refine seg cfg3_ok mixed PanicFree.body 1000 [false] [] hr8 (by first | trivial | exact HpRep.nil | assumption) (by kernel_rfl) fun s_ hs_ => ?_
  simp (maxSteps := 10000000) [SX.vc, SX.stop, SX.contS, SX.contB, SX.contW, SX.contR, SX.contD, SX.sxStep, SX.stepPure, SX.stepNew, SX.stepStore, SX.stepKeep, SX.guardIx, SX.evOp, SX.opd, SX.opds, SX.optOpd, SX.look, SX.putS, SX.gobs, SX.AllP, SX.leave, SX.lookC, SX.lookB, SX.lookT, SX.lookN, SX.findK, SX.evBuiltin, SX.ints, SX.foldI, SX.evBin, SX.evInt, SX.evStr, SX.evEq, SX.arith, SX.evLoad, SX.shapeUp, SX.evFieldAddr, SX.evField, SX.evIndexAddr, SX.evIndex, SX.evFill, SX.evBuild, SX.szs, SX.cellsV, SX.evNew, SX.evStore, SX.spliceL, SX.SV.cells, SX.evConv, SX.evSlice, SX.bnd, SX.evNil, SX.evUn, SX.evPick, SX.pickOpd, SX.popTo, SX.cnd, SX.env0, SX.TD.isAgg, SX.TD.isIface, SX.tails, SX.NotAgg, SX.evLookup, SX.evConvH, SX.evPtrEq, SX.isCells, Go.Value.cells, cfg3]
  refine ⟨by (unfold SX.Ob; first | trivial | omega | ((try simp only [SX.inK]); (try simp [SX.den, SX.IsU8, *]); (try omega))), ?_⟩
  intro a9 w9 hr9 _
  have hz9 : w.heap.size ≤ w9.heap.size := hr9.keeps.size
  have hA9 := hr9.all
  have hl1 := SO.rep_lt hA9.1.1
  have hl2 := SO.rep_lt hA9.2.1.1
  refine post_call 10 [] hr9 (wanted_none rfl) rfl (callable 10 Try.func10) (new_ok w9) ?_
  rintro e w10 ⟨b, rfl, hbz, hT10, hb10⟩
  have hwb : w.heap.size ≤ b := by omega
  refine ⟨_, rfl, ?_⟩
  have h10 := hr9.ret hb10 70 (.ptr 0 b 0) rfl _ (hr9.all.below hb10) (by simp) rfl
  refine seg cfg3_ok mixed PanicFree.body 1000 [] [(72, true)] h10.rebase (by first | trivial | exact HpRep.nil | assumption) (by kernel_rfl) fun s_ hs_ => ?_
  simp (maxSteps := 10000000) [SX.vc, SX.stop, SX.contS, SX.contB, SX.contW, SX.contR, SX.contD, SX.sxStep, SX.stepPure, SX.stepNew, SX.stepStore, SX.stepKeep, SX.guardIx, SX.evOp, SX.opd, SX.opds, SX.optOpd, SX.look, SX.putS, SX.gobs, SX.AllP, SX.leave, SX.lookC, SX.lookB, SX.lookT, SX.lookN, SX.findK, SX.evBuiltin, SX.ints, SX.foldI, SX.evBin, SX.evInt, SX.evStr, SX.evEq, SX.arith, SX.evLoad, SX.shapeUp, SX.evFieldAddr, SX.evField, SX.evIndexAddr, SX.evIndex, SX.evFill, SX.evBuild, SX.szs, SX.cellsV, SX.evNew, SX.evStore, SX.spliceL, SX.SV.cells, SX.evConv, SX.evSlice, SX.bnd, SX.evNil, SX.evUn, SX.evPick, SX.pickOpd, SX.popTo, SX.cnd, SX.env0, SX.TD.isAgg, SX.TD.isIface, SX.tails, SX.NotAgg, SX.evLookup, SX.evConvH, SX.evPtrEq, SX.isCells, Go.Value.cells, cfg3]
  refine ⟨by (unfold SX.Ob; first | trivial | omega | ((try simp only [SX.inK]); (try simp [SX.den, SX.IsU8, *]); (try omega))), ?_⟩
  intro a11 w11 hr11' _
  obtain ⟨s_1, hs11⟩ : ∃ x, x = s_ := ⟨_, rfl⟩
  subst hs11
  have hb10' := hT10.lt
  have hr11 := h10.unbase hr11'
  have hT11 := hT10.keepK hr11'.keeps (by simp [frameAt, mutB]; omega)
  have hA11 := hr11.all
  have hBg : BV b w11 (.slice (some ⟨bb, o0, none⟩) n cap) n g := .inr ⟨h0, bb, o0, N, cap, t, fz, by omega, rfl, hN, hA11.1.1⟩
  have hBh : BV b w11 (.slice (some ⟨b', 0, none⟩) n cap') n h := .inr ⟨h0, b', 0, n, cap', u', (0, 0), by omega, rfl, Nat.le_refl _, hA11.2.1.1⟩
  have hL11 : LV b w11 (.slice (some ⟨s_1, 0, none⟩) 1 1) 1 (fun _ => n) (fun _ => g) := LV.one (Nat.le_refl _) (by omega) hA11.2.2.1.1 rfl hBg (by omega)
  refine post_call 11 [.ptr 0 b 0, .sl 2 s_1 0 0 1 1 1] hr11 (wanted_zero (hr11.env.same rfl rfl rfl rfl) rfl (by simp)) rfl (callable 11 Try.func11) (sum_ok w11 b 0 hT11 (by unfold inK; omega) _ 1 _ _ hL11 (by omega)) ?_
  rintro e w12 ⟨rfl, hk12, hT12⟩
  refine ⟨_, rfl, ?_⟩
  have hBh12 := hBh.keep hk12
  have h12 := hr11.retK hk12 (fun x hx => .inl (by simp at hx; subst hx; exact hwb)) 76 (.v (.int .u32 (rv (~~~ go ones g n)))) rfl [(b', false, .any)] ⟨⟨Nat.lt_of_lt_of_le (SO.rep_lt hA11.2.1.1) hk12.size, by simp, by simp⟩, trivial⟩ (by simp) rfl
  refine seg cfg3_ok mixed PanicFree.body 1000 [] [(72, true)] h12.rebase (by first | trivial | exact HpRep.nil | assumption) (by kernel_rfl) fun s_ hs_ => ?_
  simp (maxSteps := 10000000) [SX.vc, SX.stop, SX.contS, SX.contB, SX.contW, SX.contR, SX.contD, SX.sxStep, SX.stepPure, SX.stepNew, SX.stepStore, SX.stepKeep, SX.guardIx, SX.evOp, SX.opd, SX.opds, SX.optOpd, SX.look, SX.putS, SX.gobs, SX.AllP, SX.leave, SX.lookC, SX.lookB, SX.lookT, SX.lookN, SX.findK, SX.evBuiltin, SX.ints, SX.foldI, SX.evBin, SX.evInt, SX.evStr, SX.evEq, SX.arith, SX.evLoad, SX.shapeUp, SX.evFieldAddr, SX.evField, SX.evIndexAddr, SX.evIndex, SX.evFill, SX.evBuild, SX.szs, SX.cellsV, SX.evNew, SX.evStore, SX.spliceL, SX.SV.cells, SX.evConv, SX.evSlice, SX.bnd, SX.evNil, SX.evUn, SX.evPick, SX.pickOpd, SX.popTo, SX.cnd, SX.env0, SX.TD.isAgg, SX.TD.isIface, SX.tails, SX.NotAgg, SX.evLookup, SX.evConvH, SX.evPtrEq, SX.isCells, Go.Value.cells, cfg3]
  refine ⟨by (unfold SX.Ob; first | trivial | omega | ((try simp only [SX.inK]); (try simp [SX.den, SX.IsU8, *]); (try omega))), ?_⟩
  intro a13 w13 hr13' _
  obtain ⟨s_2, hs22⟩ : ∃ x, x = s_ := ⟨_, rfl⟩
  subst hs22
  have hb12 := hT12.lt
  have hr13 := h12.unbase hr13'
  have hT13 := hT12.keepK hr13'.keeps (by simp [frameAt, mutB])
  have hA13 := hr13.all
  have hBh13 : BV b w13 (.slice (some ⟨b', 0, none⟩) n cap') n h := by
    rcases hBh12 with ⟨e0, _⟩ | ⟨_, q1, q2, q3, q4, q5, q6, q7, q8, q9, q10⟩
    · omega
    · exact .inr ⟨h0, q1, q2, q3, q4, q5, q6, q7, q8, q9, SO.rep_same q10 (hr13'.old (SO.rep_lt q10) (by simp [mutB]))⟩
  have hL13 : LV b w13 (.slice (some ⟨s_2, 0, none⟩) 1 1) 1 (fun _ => n) (fun _ => h) := LV.one (Nat.le_refl _) (by omega) hA13.2.1.1 rfl hBh13 (by omega)
  refine post_call 11 [.ptr 0 b 0, .sl 1 s_2 0 0 1 1 1] hr13 (wanted_zero (hr13.env.same rfl rfl rfl rfl) rfl (by simp)) rfl (callable 11 Try.func11) (sum_ok w13 b _ hT13 (by unfold inK; omega) _ 1 _ _ hL13 (by omega)) ?_
  rintro e w14 ⟨rfl, hk14, hT14⟩
  refine ⟨_, rfl, ?_⟩
  have h14 := hr13.retK hk14 (fun x hx => .inl (by simp at hx; subst hx; exact hwb)) 80 (.v (.int .u32 (rv (~~~ go ones h n)))) rfl [] trivial (by simp) rfl
  have hne2 : rv (~~~ go ones g n) ≠ rv (~~~ go ones h n) := fun e => hne (by have := congrArg (~~~ ·) (rv_inj e); simpa using this)
  refine seg cfg3_ok mixed PanicFree.body 1000 [] [(72, true)] h14 (by first | trivial | exact HpRep.nil | assumption) (by kernel_rfl) fun s_ hs_ => ?_
  simp (maxSteps := 10000000) [SX.vc, SX.stop, SX.contS, SX.contB, SX.contW, SX.contR, SX.contD, SX.sxStep, SX.stepPure, SX.stepNew, SX.stepStore, SX.stepKeep, SX.guardIx, SX.evOp, SX.opd, SX.opds, SX.optOpd, SX.look, SX.putS, SX.gobs, SX.AllP, SX.leave, SX.lookC, SX.lookB, SX.lookT, SX.lookN, SX.findK, SX.evBuiltin, SX.ints, SX.foldI, SX.evBin, SX.evInt, SX.evStr, SX.evEq, SX.arith, SX.evLoad, SX.shapeUp, SX.evFieldAddr, SX.evField, SX.evIndexAddr, SX.evIndex, SX.evFill, SX.evBuild, SX.szs, SX.cellsV, SX.evNew, SX.evStore, SX.spliceL, SX.SV.cells, SX.evConv, SX.evSlice, SX.bnd, SX.evNil, SX.evUn, SX.evPick, SX.pickOpd, SX.popTo, SX.cnd, SX.env0, SX.TD.isAgg, SX.TD.isIface, SX.tails, SX.NotAgg, SX.evLookup, SX.evConvH, SX.evPtrEq, SX.isCells, Go.Value.cells, cfg3, hne2]
  refine ⟨by (unfold SX.Ob; first | trivial | omega | ((try simp only [SX.inK]); (try simp [SX.den, SX.IsU8, *]); (try omega))), ?_⟩
  intro a15 w15 hr15 _
  exact post_retn (end1 hr15 rfl rfl ⟨by simp [den, hne2], hr15.keeps.toBelow⟩).1
end Go.Proofs
