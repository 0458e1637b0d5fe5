/- Matrices, walked: times, square; Join. -/
import Derived.Test.YtcepnjkcdkkdpaaRV
namespace Go.Proofs
set_option linter.unusedVariables false
set_option linter.unusedSimpArgs false
open Go Go.SX Go.RowKit Go.Crc

theorem vshk (a : BitVec 32) (k : Nat) : (rv (a >>> k)).fdiv (2 ^ min 1 IntKind.u32.bits) = rv (a >>> (k + 1)) := by
  rw [vsh1, BitVec.shiftRight_add]

def TimesLoop (w : World) (mb : Nat) (M : Nat → BitVec 32) (r : BitVec 32) (d : Nat) (a : Act) (w' : World) : Prop :=
  ∃ k : Nat, d = 32 - k ∧ k ≤ 32 ∧ RepX (frame0 w) ⟨[(6, 0, .v (.int .i64 k)), (5, 0, .v (.int .u32 (rv (xorN M r k)))), (1, 0, .v (.int .u32 (rv (r >>> k)))), (0, 0, .ptr 0 mb 0)], [(mb, false, .cells (matC M) 60)], 0, 0, 24, [], [], []⟩ a w'

theorem rv_0 : rv 0#32 = 0 := by decide
theorem rv_zero_iff (r : BitVec 32) : rv r = 0 ↔ r = 0#32 := by
  constructor
  · intro h
    exact rv_inj (h.trans (by decide))
  · rintro rfl; decide

set_option maxRecDepth 100000 in
set_option maxHeartbeats 8000000 in
theorem times_ok (w : World) (mb : Nat) (M : Nat → BitVec 32) (r : BitVec 32) (hb : (SO.cells (matC M) 60).rep w mb) :
    Calls Try.prog 21 (denL [.v (.pointer (some ⟨mb, 0, none⟩)), .v (.int .u32 (rv r))]).toArray w (RefPost w (xorN M r 32)) := by
  have hE : HpAll (frame0 w) w [(mb, false, .cells (matC M) 60)] := ⟨⟨hb, by simp, by simp⟩, trivial⟩
  refine enter (F := frame0 w) Try.func21 rfl [.ptr 0 mb 0, .v (.int .u32 (rv r))] _ (by simp [Try.f21]) hE (keeps0 w) fun a hr => ?_
  refine seg cfg21_ok mixed PanicFree.body 1000 [] [] hr (by first | trivial | exact HpRep.nil | assumption) (by kernel_rfl) fun s_ hs_ => ?_
  simp (maxSteps := 10000000) [SX.vc, SX.stop, SX.contS, SX.contB, SX.contW, SX.contR, SX.contD, SX.sxStep, SX.stepPure, SX.stepNew, SX.stepStore, SX.stepKeep, SX.guardIx, SX.evOp, SX.opd, SX.opds, SX.optOpd, SX.look, SX.putS, SX.gobs, SX.AllP, SX.leave, SX.lookC, SX.lookB, SX.lookT, SX.lookN, SX.findK, SX.evBuiltin, SX.ints, SX.foldI, SX.evBin, SX.evInt, SX.evStr, SX.evEq, SX.arith, SX.evLoad, SX.shapeUp, SX.evFieldAddr, SX.evField, SX.evIndexAddr, SX.evIndex, SX.evFill, SX.evBuild, SX.szs, SX.cellsV, SX.evNew, SX.evStore, SX.spliceL, SX.SV.cells, SX.evConv, SX.evSlice, SX.bnd, SX.evNil, SX.evUn, SX.evPick, SX.pickOpd, SX.popTo, SX.cnd, SX.env0, SX.TD.isAgg, SX.TD.isIface, SX.tails, SX.NotAgg, SX.evLookup, SX.evConvH, SX.evPtrEq, SX.isCells, Go.Value.cells, cfg21, Try.f21]
  refine ⟨by (unfold SX.Ob; first | trivial | omega | ((try simp only [SX.inK]); (try simp [SX.den, SX.IsU8, *]); (try omega))), ?_⟩
  intro a1 w1 hr1 _
  refine post_loop (TimesLoop w mb M r) 32 ⟨0, rfl, by omega, hr1.re (by simp [envTo, SX.look, xorN, rv_0]) hr1.all rfl rfl⟩ ?_
  rintro d a2 w2 ⟨k, rfl, hk, hr2⟩
  by_cases hz : rv (r >>> k) = 0
  · have he := xorN_end M r k hk ((rv_zero_iff _).1 hz)
    refine seg cfg21_ok mixed PanicFree.body 1000 [false] [] hr2 (by first | trivial | exact HpRep.nil | assumption) (by kernel_rfl) fun s_ hs_ => ?_
    simp (maxSteps := 10000000) [SX.vc, SX.stop, SX.contS, SX.contB, SX.contW, SX.contR, SX.contD, SX.sxStep, SX.stepPure, SX.stepNew, SX.stepStore, SX.stepKeep, SX.guardIx, SX.evOp, SX.opd, SX.opds, SX.optOpd, SX.look, SX.putS, SX.gobs, SX.AllP, SX.leave, SX.lookC, SX.lookB, SX.lookT, SX.lookN, SX.findK, SX.evBuiltin, SX.ints, SX.foldI, SX.evBin, SX.evInt, SX.evStr, SX.evEq, SX.arith, SX.evLoad, SX.shapeUp, SX.evFieldAddr, SX.evField, SX.evIndexAddr, SX.evIndex, SX.evFill, SX.evBuild, SX.szs, SX.cellsV, SX.evNew, SX.evStore, SX.spliceL, SX.SV.cells, SX.evConv, SX.evSlice, SX.bnd, SX.evNil, SX.evUn, SX.evPick, SX.pickOpd, SX.popTo, SX.cnd, SX.env0, SX.TD.isAgg, SX.TD.isIface, SX.tails, SX.NotAgg, SX.evLookup, SX.evConvH, SX.evPtrEq, SX.isCells, Go.Value.cells, cfg21, hz]
    refine ⟨by (unfold SX.Ob; first | trivial | omega | ((try simp only [SX.inK]); (try simp [SX.den, SX.IsU8, *]); (try omega))), ?_⟩
    intro a3 w3 hr3 _
    exact post_retn (end1 hr3 rfl rfl ⟨by simp [den, he], hr3.keeps.toBelow⟩).1
  · have hlt : k < 32 := by
      rcases Nat.lt_or_ge k 32 with h | h
      · exact h
      · obtain rfl : k = 32 := by omega
        exact absurd ((rv_zero_iff _).2 (shift_32 r)) hz
    have hlow := low_of (r >>> k)
    have hbk : (r >>> k).getLsbD 0 = r.getLsbD k := by rw [BitVec.getLsbD_ushiftRight]; rfl
    rw [hbk] at hlow
    cases hb : r.getLsbD k with
    | false =>
      rw [hb] at hlow
      simp only [Bool.false_eq_true, if_false] at hlow
      refine seg cfg21_ok mixed PanicFree.body 1000 [true, false] [] hr2 (by first | trivial | exact HpRep.nil | assumption) (by kernel_rfl) fun s_ hs_ => ?_
      simp (maxSteps := 10000000) [SX.vc, SX.stop, SX.contS, SX.contB, SX.contW, SX.contR, SX.contD, SX.sxStep, SX.stepPure, SX.stepNew, SX.stepStore, SX.stepKeep, SX.guardIx, SX.evOp, SX.opd, SX.opds, SX.optOpd, SX.look, SX.putS, SX.gobs, SX.AllP, SX.leave, SX.lookC, SX.lookB, SX.lookT, SX.lookN, SX.findK, SX.evBuiltin, SX.ints, SX.foldI, SX.evBin, SX.evInt, SX.evStr, SX.evEq, SX.arith, SX.evLoad, SX.shapeUp, SX.evFieldAddr, SX.evField, SX.evIndexAddr, SX.evIndex, SX.evFill, SX.evBuild, SX.szs, SX.cellsV, SX.evNew, SX.evStore, SX.spliceL, SX.SV.cells, SX.evConv, SX.evSlice, SX.bnd, SX.evNil, SX.evUn, SX.evPick, SX.pickOpd, SX.popTo, SX.cnd, SX.env0, SX.TD.isAgg, SX.TD.isIface, SX.tails, SX.NotAgg, SX.evLookup, SX.evConvH, SX.evPtrEq, SX.isCells, Go.Value.cells, cfg21, hz, va1, hlow, vshk]
      refine ⟨by (unfold SX.Ob; first | trivial | omega | ((try simp only [SX.inK]); (try simp [SX.den, SX.IsU8, *]); (try omega))), ?_⟩
      intro a3 w3 hr3 _
      exact post_rnd (32 - (k + 1)) (by omega) ⟨k + 1, rfl, hlt, hr3.re (by simp [envTo, SX.look, den, xorN, hb]) hr3.all rfl rfl⟩
    | true =>
      rw [hb] at hlow
      simp only [if_true] at hlow
      refine seg cfg21_ok mixed PanicFree.body 1000 [true, true] [] hr2 (by first | trivial | exact HpRep.nil | assumption) (by kernel_rfl) fun s_ hs_ => ?_
      simp (maxSteps := 10000000) [SX.vc, SX.stop, SX.contS, SX.contB, SX.contW, SX.contR, SX.contD, SX.sxStep, SX.stepPure, SX.stepNew, SX.stepStore, SX.stepKeep, SX.guardIx, SX.evOp, SX.opd, SX.opds, SX.optOpd, SX.look, SX.putS, SX.gobs, SX.AllP, SX.leave, SX.lookC, SX.lookB, SX.lookT, SX.lookN, SX.findK, SX.evBuiltin, SX.ints, SX.foldI, SX.evBin, SX.evInt, SX.evStr, SX.evEq, SX.arith, SX.evLoad, SX.shapeUp, SX.evFieldAddr, SX.evField, SX.evIndexAddr, SX.evIndex, SX.evFill, SX.evBuild, SX.szs, SX.cellsV, SX.evNew, SX.evStore, SX.spliceL, SX.SV.cells, SX.evConv, SX.evSlice, SX.bnd, SX.evNil, SX.evUn, SX.evPick, SX.pickOpd, SX.popTo, SX.cnd, SX.env0, SX.TD.isAgg, SX.TD.isIface, SX.tails, SX.NotAgg, SX.evLookup, SX.evConvH, SX.evPtrEq, SX.isCells, Go.Value.cells, cfg21, hz, va1, hlow, vshk, vx32, mat_load M k hlt]
      refine ⟨by (unfold SX.Ob; first | trivial | omega | ((try simp only [SX.inK]); (try simp [SX.den, SX.IsU8, *]); (try omega))), ?_⟩
      intro a3 w3 hr3 _
      exact post_rnd (32 - (k + 1)) (by omega) ⟨k + 1, rfl, hlt, hr3.re (by simp [envTo, SX.look, den, xorN, hb]) hr3.all rfl rfl⟩

def SqLoop (w : World) (mb s0 : Nat) (M : Nat → BitVec 32) (d : Nat) (a : Act) (w' : World) : Prop :=
  ∃ k : Nat, d = 32 - k ∧ k ≤ 32 ∧ RepX (frame0 w) ⟨[(7, 0, .v (.int .i64 k)), (6, 0, .ptr 0 mb 0), (3, 0, .ptr 1 s0 0), (0, 0, .ptr 0 mb 0)],
    [(mb, false, .cells (matC M) 60), (s0, true, .cells (matC fun i => if i < k then xorN M (M i) 32 else 0#32) 60)], 0, 0, 19, [], [], []⟩ a w'

def SqPost (w : World) (M : Nat → BitVec 32) (e : Ending) (w' : World) : Prop :=
  ∃ s0, e = .returned (.pointer (some ⟨s0, 0, none⟩)) ∧ w.heap.size ≤ s0 ∧ (SO.cells (matC fun i => xorN M (M i) 32) 60).rep w' s0 ∧ Below w.heap.size w w'

set_option maxRecDepth 100000 in
set_option maxHeartbeats 8000000 in
theorem square_ok (w : World) (mb : Nat) (M : Nat → BitVec 32) (hb : (SO.cells (matC M) 60).rep w mb) :
    Calls Try.prog 22 (denL [.v (.pointer (some ⟨mb, 0, none⟩))]).toArray w (SqPost w M) := by
  have hE : HpAll (frame0 w) w [(mb, false, .cells (matC M) 60)] := ⟨⟨hb, by simp, by simp⟩, trivial⟩
  refine enter (F := frame0 w) Try.func22 rfl [.ptr 0 mb 0] _ (by simp [Try.f22]) hE (keeps0 w) fun a hr => ?_
  refine seg cfg22_ok mixed PanicFree.body 1000 [] [] hr (by first | trivial | exact HpRep.nil | assumption) (by kernel_rfl) fun s_ hs_ => ?_
  simp (maxSteps := 10000000) [SX.vc, SX.stop, SX.contS, SX.contB, SX.contW, SX.contR, SX.contD, SX.sxStep, SX.stepPure, SX.stepNew, SX.stepStore, SX.stepKeep, SX.guardIx, SX.evOp, SX.opd, SX.opds, SX.optOpd, SX.look, SX.putS, SX.gobs, SX.AllP, SX.leave, SX.lookC, SX.lookB, SX.lookT, SX.lookN, SX.findK, SX.evBuiltin, SX.ints, SX.foldI, SX.evBin, SX.evInt, SX.evStr, SX.evEq, SX.arith, SX.evLoad, SX.shapeUp, SX.evFieldAddr, SX.evField, SX.evIndexAddr, SX.evIndex, SX.evFill, SX.evBuild, SX.szs, SX.cellsV, SX.evNew, SX.evStore, SX.spliceL, SX.SV.cells, SX.evConv, SX.evSlice, SX.bnd, SX.evNil, SX.evUn, SX.evPick, SX.pickOpd, SX.popTo, SX.cnd, SX.env0, SX.TD.isAgg, SX.TD.isIface, SX.tails, SX.NotAgg, SX.evLookup, SX.evConvH, SX.evPtrEq, SX.isCells, Go.Value.cells, cfg22, Try.f22]
  refine ⟨by (unfold SX.Ob; first | trivial | omega | ((try simp only [SX.inK]); (try simp [SX.den, SX.IsU8, *]); (try omega))), ?_⟩
  intro a1 w1 hr1 _
  obtain ⟨s_0, hs00⟩ : ∃ x, x = s_ := ⟨_, rfl⟩
  subst hs00
  have hA1 := hr1.all
  have hne : mb ≠ s_0 := by have := SO.rep_lt hb; omega
  refine post_loop (SqLoop w mb s_0 M) 32 ⟨0, rfl, by omega, hr1.re (by simp [envTo, SX.look]) ⟨⟨hA1.1.1, by simp, by simpa using hne⟩, ⟨hA1.2.1.1, hA1.2.1.2.1, by simp⟩, trivial⟩ rfl rfl⟩ ?_
  rintro d a2 w2 ⟨k, rfl, hk, hr2⟩
  by_cases hlt : k < 32
  · refine seg cfg22_ok mixed PanicFree.body 1000 [true] [] hr2 (by first | trivial | exact HpRep.nil | assumption) (by kernel_rfl) fun s_ hs_ => ?_
    simp (maxSteps := 10000000) [SX.vc, SX.stop, SX.contS, SX.contB, SX.contW, SX.contR, SX.contD, SX.sxStep, SX.stepPure, SX.stepNew, SX.stepStore, SX.stepKeep, SX.guardIx, SX.evOp, SX.opd, SX.opds, SX.optOpd, SX.look, SX.putS, SX.gobs, SX.AllP, SX.leave, SX.lookC, SX.lookB, SX.lookT, SX.lookN, SX.findK, SX.evBuiltin, SX.ints, SX.foldI, SX.evBin, SX.evInt, SX.evStr, SX.evEq, SX.arith, SX.evLoad, SX.shapeUp, SX.evFieldAddr, SX.evField, SX.evIndexAddr, SX.evIndex, SX.evFill, SX.evBuild, SX.szs, SX.cellsV, SX.evNew, SX.evStore, SX.spliceL, SX.SV.cells, SX.evConv, SX.evSlice, SX.bnd, SX.evNil, SX.evUn, SX.evPick, SX.pickOpd, SX.popTo, SX.cnd, SX.env0, SX.TD.isAgg, SX.TD.isIface, SX.tails, SX.NotAgg, SX.evLookup, SX.evConvH, SX.evPtrEq, SX.isCells, Go.Value.cells, cfg22, mat_load M k hlt]
    refine ⟨by (unfold SX.Ob; first | trivial | omega | ((try simp only [SX.inK]); (try simp [SX.den, SX.IsU8, *]); (try omega))), ?_⟩
    intro a3 w3 hr3 _
    refine post_call 21 [.ptr 0 mb 0, .v (.int .u32 (rv (M k)))] hr3 (wanted_none rfl) rfl (callable 21 Try.func21) (times_ok w3 mb M (M k) hr3.all.1.1) ?_
    rintro e w4 ⟨rfl, hb4⟩
    refine ⟨_, rfl, ?_⟩
    have h4 := hr3.ret hb4 16 (.v (.int .u32 (rv (xorN M (M k) 32)))) rfl _ (hr3.all.below hb4) (by simp) rfl
    have h32 : k + 1 ≤ 32 := hlt
    refine seg cfg22_ok mixed PanicFree.body 1000 [] [] h4 (by first | trivial | exact HpRep.nil | assumption) (by kernel_rfl) fun s_ hs_ => ?_
    simp (maxSteps := 10000000) [SX.vc, SX.stop, SX.contS, SX.contB, SX.contW, SX.contR, SX.contD, SX.sxStep, SX.stepPure, SX.stepNew, SX.stepStore, SX.stepKeep, SX.guardIx, SX.evOp, SX.opd, SX.opds, SX.optOpd, SX.look, SX.putS, SX.gobs, SX.AllP, SX.leave, SX.lookC, SX.lookB, SX.lookT, SX.lookN, SX.findK, SX.evBuiltin, SX.ints, SX.foldI, SX.evBin, SX.evInt, SX.evStr, SX.evEq, SX.arith, SX.evLoad, SX.shapeUp, SX.evFieldAddr, SX.evField, SX.evIndexAddr, SX.evIndex, SX.evFill, SX.evBuild, SX.szs, SX.cellsV, SX.evNew, SX.evStore, SX.spliceL, SX.SV.cells, SX.evConv, SX.evSlice, SX.bnd, SX.evNil, SX.evUn, SX.evPick, SX.pickOpd, SX.popTo, SX.cnd, SX.env0, SX.TD.isAgg, SX.TD.isIface, SX.tails, SX.NotAgg, SX.evLookup, SX.evConvH, SX.evPtrEq, SX.isCells, Go.Value.cells, cfg22, mat_len, h32, mat_set _ k hlt]
    refine ⟨by (unfold SX.Ob; first | trivial | omega | ((try simp only [SX.inK]); (try simp [SX.den, SX.IsU8, *]); (try omega))), ?_⟩
    intro a5 w5 hr5 _
    exact post_rnd (32 - (k + 1)) (by omega) ⟨k + 1, rfl, hlt, hr5.re (by simp [envTo, SX.look, den]) ⟨⟨hr5.all.1.1, by simp, by simpa using hne⟩, ⟨mat_congr hr5.all.2.1.1 fun i hi => by
      by_cases h1 : i = k
      · subst h1; simp
      · by_cases h2 : i < k
        · simp [h1, h2, show i < k + 1 by omega]
        · simp [h1, h2, show ¬ i < k + 1 by omega], hr5.all.2.1.2.1, by simp⟩, trivial⟩ rfl rfl⟩
  · obtain rfl : k = 32 := by omega
    refine seg cfg22_ok mixed PanicFree.body 1000 [false] [] hr2 (by first | trivial | exact HpRep.nil | assumption) (by kernel_rfl) fun s_ hs_ => ?_
    simp (maxSteps := 10000000) [SX.vc, SX.stop, SX.contS, SX.contB, SX.contW, SX.contR, SX.contD, SX.sxStep, SX.stepPure, SX.stepNew, SX.stepStore, SX.stepKeep, SX.guardIx, SX.evOp, SX.opd, SX.opds, SX.optOpd, SX.look, SX.putS, SX.gobs, SX.AllP, SX.leave, SX.lookC, SX.lookB, SX.lookT, SX.lookN, SX.findK, SX.evBuiltin, SX.ints, SX.foldI, SX.evBin, SX.evInt, SX.evStr, SX.evEq, SX.arith, SX.evLoad, SX.shapeUp, SX.evFieldAddr, SX.evField, SX.evIndexAddr, SX.evIndex, SX.evFill, SX.evBuild, SX.szs, SX.cellsV, SX.evNew, SX.evStore, SX.spliceL, SX.SV.cells, SX.evConv, SX.evSlice, SX.bnd, SX.evNil, SX.evUn, SX.evPick, SX.pickOpd, SX.popTo, SX.cnd, SX.env0, SX.TD.isAgg, SX.TD.isIface, SX.tails, SX.NotAgg, SX.evLookup, SX.evConvH, SX.evPtrEq, SX.isCells, Go.Value.cells, cfg22]
    refine ⟨by (unfold SX.Ob; first | trivial | omega | ((try simp only [SX.inK]); (try simp [SX.den, SX.IsU8, *]); (try omega))), ?_⟩
    intro a3 w3 hr3 _
    exact post_retn (end1 hr3 rfl rfl ⟨s_0, rfl, by omega, mat_congr hr3.all.2.1.1 fun i hi => by simp [hi], hr3.keeps.toBelow⟩).1

/-! ### Join -/
def JFill (w : World) (b : Nat) (u : Int) (a0 b0 : BitVec 32) (n mb : Nat) (d : Nat) (a : Act) (w' : World) : Prop :=
  ∃ k : Nat, d = 32 - k ∧ k ≤ 32 ∧ RepX ⟨w, w.heap.size, [b]⟩ ⟨[(26, 0, .v (.int .i64 k)), (9, 0, .ptr 1 mb 0), (3, 0, .v (.int .i64 n)), (2, 0, .v (.int .u32 (rv b0))), (1, 0, .v (.int .u32 (rv a0))), (0, 0, .ptr 0 b 0)],
    [(b, false, .cells (tabC 1 0 tabI u) 55), (mb, true, .cells (matC fun i => if i < k then base 8 i else 0#32) 60)], 0, 0, 61, [], [], []⟩ a w'

def JLoop (w : World) (b : Nat) (u : Int) (r b0 : BitVec 32) (d : Nat) (a : Act) (w' : World) : Prop :=
  ∃ (e mb : Nat) (a1 : BitVec 32), fN (e * d) a1 = r ∧ d ≤ 9223372036854775807 ∧ RepX ⟨w, w.heap.size, [b]⟩ ⟨[(9, 0, .ptr 1 mb 0), (3, 0, .v (.int .i64 d)), (2, 0, .v (.int .u32 (rv b0))), (1, 0, .v (.int .u32 (rv a1)))],
    [(b, false, .cells (tabC 1 0 tabI u) 55), (mb, false, .cells (matC (base e)) 60)], 0, 0, 61, [], [], []⟩ a w'

set_option maxRecDepth 100000 in
set_option maxHeartbeats 16000000 in
theorem join_ok (w : World) (b : Nat) (u : Int) (hT : TabRep w b u) (hin : inK (u + 1)) (a0 b0 : BitVec 32) (n : Nat) (hn : n ≤ 9223372036854775807) :
    Calls Try.prog 15 (denL [.v (.pointer (some ⟨b, 0, none⟩)), .v (.int .u32 (rv a0)), .v (.int .u32 (rv b0)), .v (.int .i64 n)]).toArray w (SumPost w b u (fN (8 * n) a0 ^^^ b0)) := by
  obtain ⟨d0, T0, hd0, hdT0, hb0⟩ := hT
  have hE : HpAll ⟨w, w.heap.size, [b]⟩ w [(b, false, .cells (tabC d0 0 T0 u) 55)] := ⟨⟨hb0, by simp, by simp⟩, trivial⟩
  refine enter (F := ⟨w, w.heap.size, [b]⟩) Try.func15 rfl [.ptr 0 b 0, .v (.int .u32 (rv a0)), .v (.int .u32 (rv b0)), .v (.int .i64 n)] _ (by simp [Try.f15]) hE (KeepsTo.refl w _) fun a hr => ?_
  refine seg cfg15_ok mixed PanicFree.body 1000 [] [] hr (by first | trivial | exact HpRep.nil | assumption) (by kernel_rfl) fun s_ hs_ => ?_
  simp (maxSteps := 10000000) [SX.vc, SX.stop, SX.contS, SX.contB, SX.contW, SX.contR, SX.contD, SX.sxStep, SX.stepPure, SX.stepNew, SX.stepStore, SX.stepKeep, SX.guardIx, SX.evOp, SX.opd, SX.opds, SX.optOpd, SX.look, SX.putS, SX.gobs, SX.AllP, SX.leave, SX.lookC, SX.lookB, SX.lookT, SX.lookN, SX.findK, SX.evBuiltin, SX.ints, SX.foldI, SX.evBin, SX.evInt, SX.evStr, SX.evEq, SX.arith, SX.evLoad, SX.shapeUp, SX.evFieldAddr, SX.evField, SX.evIndexAddr, SX.evIndex, SX.evFill, SX.evBuild, SX.szs, SX.cellsV, SX.evNew, SX.evStore, SX.spliceL, SX.SV.cells, SX.evConv, SX.evSlice, SX.bnd, SX.evNil, SX.evUn, SX.evPick, SX.pickOpd, SX.popTo, SX.cnd, SX.env0, SX.TD.isAgg, SX.TD.isIface, SX.tails, SX.NotAgg, SX.evLookup, SX.evConvH, SX.evPtrEq, SX.isCells, Go.Value.cells, cfg15, Try.f15]
  refine ⟨by (unfold SX.Ob; first | trivial | omega | ((try simp only [SX.inK]); (try simp [SX.den, SX.IsU8, *]); (try omega))), ?_⟩
  intro a1 w1 hr1 _
  refine post_call 17 [.ptr 0 b 259, .v (.int .i64 1)] hr1 (wanted_none rfl) rfl (callable 17 Try.func17) (asked_ok w1 b u ⟨d0, T0, hd0, hdT0, hr1.all.1.1⟩ hin) ?_
  rintro e w2 ⟨rfl, hk2, hT2⟩
  refine ⟨_, rfl, ?_⟩
  obtain ⟨d, T, hd, hdT, hb2⟩ := hT2
  have h2 := hr1.retK hk2 (fun x hx => .inr hx) 15 (.v (.int .i64 (u + 1))) rfl [(b, false, .cells (tabC d 0 T (u + 1)) 55)] ⟨⟨hb2, by simp, by simp⟩, trivial⟩ (by simp) rfl
  refine seg cfg15_ok mixed PanicFree.body 1000 [false] [] h2 (by first | trivial | exact HpRep.nil | assumption) (by kernel_rfl) fun s_ hs_ => ?_
  simp (maxSteps := 10000000) [SX.vc, SX.stop, SX.contS, SX.contB, SX.contW, SX.contR, SX.contD, SX.sxStep, SX.stepPure, SX.stepNew, SX.stepStore, SX.stepKeep, SX.guardIx, SX.evOp, SX.opd, SX.opds, SX.optOpd, SX.look, SX.putS, SX.gobs, SX.AllP, SX.leave, SX.lookC, SX.lookB, SX.lookT, SX.lookN, SX.findK, SX.evBuiltin, SX.ints, SX.foldI, SX.evBin, SX.evInt, SX.evStr, SX.evEq, SX.arith, SX.evLoad, SX.shapeUp, SX.evFieldAddr, SX.evField, SX.evIndexAddr, SX.evIndex, SX.evFill, SX.evBuild, SX.szs, SX.cellsV, SX.evNew, SX.evStore, SX.spliceL, SX.SV.cells, SX.evConv, SX.evSlice, SX.bnd, SX.evNil, SX.evUn, SX.evPick, SX.pickOpd, SX.popTo, SX.cnd, SX.env0, SX.TD.isAgg, SX.TD.isIface, SX.tails, SX.NotAgg, SX.evLookup, SX.evConvH, SX.evPtrEq, SX.isCells, Go.Value.cells, cfg15]
  refine ⟨by (unfold SX.Ob; first | trivial | omega | ((try simp only [SX.inK]); (try simp [SX.den, SX.IsU8, *]); (try omega))), ?_⟩
  intro a3 w3 hr3 _
  refine post_call 19 [.ptr 0 b 0, .fn (.func 20) [.ptr 0 b 0] []] hr3 (wanted_none rfl) rfl (callable 19 Try.func19) (do_ok w3 b d hd T (u + 1) hdT hr3.all.1.1) ?_
  rintro e w4 ⟨rfl, hk4, hb4⟩
  refine ⟨_, rfl, ?_⟩
  have h4 := hr3.retK hk4 (fun x hx => .inr hx) 23 (.tu []) rfl [(b, false, .cells (tabC 1 0 tabI (u + 1)) 55)] ⟨⟨hb4, by simp, by simp⟩, trivial⟩ (by simp) rfl
  refine seg cfg15_ok mixed PanicFree.body 1000 [] [] h4 (by first | trivial | exact HpRep.nil | assumption) (by kernel_rfl) fun s_ hs_ => ?_
  simp (maxSteps := 10000000) [SX.vc, SX.stop, SX.contS, SX.contB, SX.contW, SX.contR, SX.contD, SX.sxStep, SX.stepPure, SX.stepNew, SX.stepStore, SX.stepKeep, SX.guardIx, SX.evOp, SX.opd, SX.opds, SX.optOpd, SX.look, SX.putS, SX.gobs, SX.AllP, SX.leave, SX.lookC, SX.lookB, SX.lookT, SX.lookN, SX.findK, SX.evBuiltin, SX.ints, SX.foldI, SX.evBin, SX.evInt, SX.evStr, SX.evEq, SX.arith, SX.evLoad, SX.shapeUp, SX.evFieldAddr, SX.evField, SX.evIndexAddr, SX.evIndex, SX.evFill, SX.evBuild, SX.szs, SX.cellsV, SX.evNew, SX.evStore, SX.spliceL, SX.SV.cells, SX.evConv, SX.evSlice, SX.bnd, SX.evNil, SX.evUn, SX.evPick, SX.pickOpd, SX.popTo, SX.cnd, SX.env0, SX.TD.isAgg, SX.TD.isIface, SX.tails, SX.NotAgg, SX.evLookup, SX.evConvH, SX.evPtrEq, SX.isCells, Go.Value.cells, cfg15]
  refine ⟨by (unfold SX.Ob; first | trivial | omega | ((try simp only [SX.inK]); (try simp [SX.den, SX.IsU8, *]); (try omega))), ?_⟩
  intro a5 w5 hr5 _
  obtain ⟨s_0, hs00⟩ : ∃ x, x = s_ := ⟨_, rfl⟩
  subst hs00
  have hA5 := hr5.all
  have hne : b ≠ s_0 := by have := SO.rep_lt hb4; omega
  refine post_loop (JFill w b (u + 1) a0 b0 n s_0) 32 ⟨0, rfl, by omega, hr5.re (by simp [envTo, SX.look]) ⟨⟨hA5.1.1, by simp, by simpa using hne⟩, ⟨hA5.2.1.1, hA5.2.1.2.1, by simp⟩, trivial⟩ rfl rfl⟩ ?_
  clear hr hr1 h2 hr3 h4 hr5 hA5 hE hb0 hb2 hb4
  rintro d a6 w6 ⟨k, rfl, hk, hr6⟩
  by_cases hlt : k < 32
  · have hsh := shl32 k hlt
    have h32 : k + 1 ≤ 32 := hlt
    have hbs := base_step k hlt
    obtain ⟨r, hr0⟩ : ∃ r, r = 1#32 <<< k := ⟨_, rfl⟩
    rw [← hr0] at hsh hbs
    clear hr0
    have hy := bv_in (r.setWidth 8)
    refine seg cfg15_ok mixed PanicFree.body 1000 [true] [] hr6 (by first | trivial | exact HpRep.nil | assumption) (by kernel_rfl) fun s_ hs_ => ?_
    simp (maxSteps := 10000000) [SX.vc, SX.stop, SX.contS, SX.contB, SX.contW, SX.contR, SX.contD, SX.sxStep, SX.stepPure, SX.stepNew, SX.stepStore, SX.stepKeep, SX.guardIx, SX.evOp, SX.opd, SX.opds, SX.optOpd, SX.look, SX.putS, SX.gobs, SX.AllP, SX.leave, SX.lookC, SX.lookB, SX.lookT, SX.lookN, SX.findK, SX.evBuiltin, SX.ints, SX.foldI, SX.evBin, SX.evInt, SX.evStr, SX.evEq, SX.arith, SX.evLoad, SX.shapeUp, SX.evFieldAddr, SX.evField, SX.evIndexAddr, SX.evIndex, SX.evFill, SX.evBuild, SX.szs, SX.cellsV, SX.evNew, SX.evStore, SX.spliceL, SX.SV.cells, SX.evConv, SX.evSlice, SX.bnd, SX.evNil, SX.evUn, SX.evPick, SX.pickOpd, SX.popTo, SX.cnd, SX.env0, SX.TD.isAgg, SX.TD.isIface, SX.tails, SX.NotAgg, SX.evLookup, SX.evConvH, SX.evPtrEq, SX.isCells, Go.Value.cells, cfg15, hsh, vlo, vsh8, tab_load, tab_at8, vx32, hbs, mat_len, h32, mat_set _ k hlt]
    refine ⟨by (unfold SX.Ob; first | trivial | omega | ((try simp only [SX.inK]); (try simp [SX.den, SX.IsU8, *]); (try omega))), ?_⟩
    intro a7 w7 hr7 _
    exact post_rnd (32 - (k + 1)) (by omega) ⟨k + 1, rfl, hlt, hr7.re (by simp [envTo, SX.look, den]) ⟨⟨hr7.all.1.1, by simp, by simpa using hne⟩, ⟨mat_congr hr7.all.2.1.1 fun i hi => by
      by_cases h1 : i = k
      · subst h1; simp
      · by_cases h2 : i < k
        · simp [h1, h2, show i < k + 1 by omega]
        · simp [h1, h2, show ¬ i < k + 1 by omega], hr7.all.2.1.2.1, by simp⟩, trivial⟩ rfl rfl⟩
  obtain rfl : k = 32 := by omega
  refine seg cfg15_ok mixed PanicFree.body 1000 [false] [] hr6 (by first | trivial | exact HpRep.nil | assumption) (by kernel_rfl) fun s_ hs_ => ?_
  simp (maxSteps := 10000000) [SX.vc, SX.stop, SX.contS, SX.contB, SX.contW, SX.contR, SX.contD, SX.sxStep, SX.stepPure, SX.stepNew, SX.stepStore, SX.stepKeep, SX.guardIx, SX.evOp, SX.opd, SX.opds, SX.optOpd, SX.look, SX.putS, SX.gobs, SX.AllP, SX.leave, SX.lookC, SX.lookB, SX.lookT, SX.lookN, SX.findK, SX.evBuiltin, SX.ints, SX.foldI, SX.evBin, SX.evInt, SX.evStr, SX.evEq, SX.arith, SX.evLoad, SX.shapeUp, SX.evFieldAddr, SX.evField, SX.evIndexAddr, SX.evIndex, SX.evFill, SX.evBuild, SX.szs, SX.cellsV, SX.evNew, SX.evStore, SX.spliceL, SX.SV.cells, SX.evConv, SX.evSlice, SX.bnd, SX.evNil, SX.evUn, SX.evPick, SX.pickOpd, SX.popTo, SX.cnd, SX.env0, SX.TD.isAgg, SX.TD.isIface, SX.tails, SX.NotAgg, SX.evLookup, SX.evConvH, SX.evPtrEq, SX.isCells, Go.Value.cells, cfg15]
  refine ⟨by (unfold SX.Ob; first | trivial | omega | ((try simp only [SX.inK]); (try simp [SX.den, SX.IsU8, *]); (try omega))), ?_⟩
  intro a7 w7 hr7 _
  have hA7 := hr7.all
  refine post_loop (JLoop w b (u + 1) (fN (8 * n) a0) b0) n ⟨8, s_0, a0, rfl, hn, hr7.re (by simp [envTo, SX.look]) ⟨⟨hA7.1.1, by simp, by simpa using hne⟩, ⟨mat_congr hA7.2.1.1 fun i hi => by simp [hi], by simp, by simp⟩, trivial⟩ rfl rfl⟩ ?_
  clear hr6 hr7 hA7
  rintro d a8 w8 ⟨e, mb, a1, hfn, hd9, hr8⟩
  by_cases hd0 : d = 0
  · subst hd0
    refine seg cfg15_ok mixed PanicFree.body 1000 [false] [] hr8 (by first | trivial | exact HpRep.nil | assumption) (by kernel_rfl) fun s_ hs_ => ?_
    simp (maxSteps := 10000000) [SX.vc, SX.stop, SX.contS, SX.contB, SX.contW, SX.contR, SX.contD, SX.sxStep, SX.stepPure, SX.stepNew, SX.stepStore, SX.stepKeep, SX.guardIx, SX.evOp, SX.opd, SX.opds, SX.optOpd, SX.look, SX.putS, SX.gobs, SX.AllP, SX.leave, SX.lookC, SX.lookB, SX.lookT, SX.lookN, SX.findK, SX.evBuiltin, SX.ints, SX.foldI, SX.evBin, SX.evInt, SX.evStr, SX.evEq, SX.arith, SX.evLoad, SX.shapeUp, SX.evFieldAddr, SX.evField, SX.evIndexAddr, SX.evIndex, SX.evFill, SX.evBuild, SX.szs, SX.cellsV, SX.evNew, SX.evStore, SX.spliceL, SX.SV.cells, SX.evConv, SX.evSlice, SX.bnd, SX.evNil, SX.evUn, SX.evPick, SX.pickOpd, SX.popTo, SX.cnd, SX.env0, SX.TD.isAgg, SX.TD.isIface, SX.tails, SX.NotAgg, SX.evLookup, SX.evConvH, SX.evPtrEq, SX.isCells, Go.Value.cells, cfg15, vx32]
    refine ⟨by (unfold SX.Ob; first | trivial | omega | ((try simp only [SX.inK]); (try simp [SX.den, SX.IsU8, *]); (try omega))), ?_⟩
    intro a9 w9 hr9 _
    have hf : fN (e * 0) a1 = a1 := rfl
    rw [hf] at hfn
    exact post_retn (end1 hr9 rfl rfl ⟨by simp [den, hfn], hr9.keeps, TabRep.full hr9.all.1.1⟩).1
  have hand : bitv .and .i64 (d : Int) 1 = ((d % 2 : Nat) : Int) := by
    show IntKind.i64.wrap ((BitVec.ofInt 64 (d : Int) &&& BitVec.ofInt 64 1).toNat : Int) = _
    have e1 : (BitVec.ofInt 64 (d : Int) &&& BitVec.ofInt 64 1).toNat = d % 2 := by
      rw [BitVec.toNat_and, BitVec.ofInt_natCast, BitVec.toNat_ofNat]
      show d % 2 ^ 64 &&& 1 = d % 2
      rw [Nat.and_one_is_mod]
      omega
    rw [e1]
    exact wrap_inK (by unfold inK; omega)
  have hhalf : (d : Int).fdiv (2 ^ min 1 IntKind.i64.bits) = ((d / 2 : Nat) : Int) := by
    show (d : Int).fdiv ((2 : Nat) : Int) = _
    rw [← Int.ofNat_fdiv]
  have hdp : 0 < d := by omega
  by_cases hodd : d % 2 = 1
  · have h1 : ((d % 2 : Nat) : Int) = 1 := by omega
    rw [h1] at hand
    refine seg cfg15_ok mixed PanicFree.body 1000 [true, true] [] hr8 (by first | trivial | exact HpRep.nil | assumption) (by kernel_rfl) fun s_ hs_ => ?_
    simp (maxSteps := 10000000) [SX.vc, SX.stop, SX.contS, SX.contB, SX.contW, SX.contR, SX.contD, SX.sxStep, SX.stepPure, SX.stepNew, SX.stepStore, SX.stepKeep, SX.guardIx, SX.evOp, SX.opd, SX.opds, SX.optOpd, SX.look, SX.putS, SX.gobs, SX.AllP, SX.leave, SX.lookC, SX.lookB, SX.lookT, SX.lookN, SX.findK, SX.evBuiltin, SX.ints, SX.foldI, SX.evBin, SX.evInt, SX.evStr, SX.evEq, SX.arith, SX.evLoad, SX.shapeUp, SX.evFieldAddr, SX.evField, SX.evIndexAddr, SX.evIndex, SX.evFill, SX.evBuild, SX.szs, SX.cellsV, SX.evNew, SX.evStore, SX.spliceL, SX.SV.cells, SX.evConv, SX.evSlice, SX.bnd, SX.evNil, SX.evUn, SX.evPick, SX.pickOpd, SX.popTo, SX.cnd, SX.env0, SX.TD.isAgg, SX.TD.isIface, SX.tails, SX.NotAgg, SX.evLookup, SX.evConvH, SX.evPtrEq, SX.isCells, Go.Value.cells, cfg15, hand, hdp]
    refine ⟨by (unfold SX.Ob; first | trivial | omega | ((try simp only [SX.inK]); (try simp [SX.den, SX.IsU8, *]); (try omega))), ?_⟩
    intro a9 w9 hr9 _
    refine post_call 21 [.ptr 1 mb 0, .v (.int .u32 (rv a1))] hr9 (wanted_none rfl) rfl (callable 21 Try.func21) (times_ok w9 mb _ a1 hr9.all.2.1.1) ?_
    rintro e10 w10 ⟨rfl, hb10⟩
    refine ⟨_, rfl, ?_⟩
    have h10 := hr9.ret hb10 55 (.v (.int .u32 (rv (xorN (base e) a1 32)))) rfl _ (hr9.all.below hb10) (by simp) rfl
    refine seg cfg15_ok mixed PanicFree.body 1000 [] [] h10 (by first | trivial | exact HpRep.nil | assumption) (by kernel_rfl) fun s_ hs_ => ?_
    simp (maxSteps := 10000000) [SX.vc, SX.stop, SX.contS, SX.contB, SX.contW, SX.contR, SX.contD, SX.sxStep, SX.stepPure, SX.stepNew, SX.stepStore, SX.stepKeep, SX.guardIx, SX.evOp, SX.opd, SX.opds, SX.optOpd, SX.look, SX.putS, SX.gobs, SX.AllP, SX.leave, SX.lookC, SX.lookB, SX.lookT, SX.lookN, SX.findK, SX.evBuiltin, SX.ints, SX.foldI, SX.evBin, SX.evInt, SX.evStr, SX.evEq, SX.arith, SX.evLoad, SX.shapeUp, SX.evFieldAddr, SX.evField, SX.evIndexAddr, SX.evIndex, SX.evFill, SX.evBuild, SX.szs, SX.cellsV, SX.evNew, SX.evStore, SX.spliceL, SX.SV.cells, SX.evConv, SX.evSlice, SX.bnd, SX.evNil, SX.evUn, SX.evPick, SX.pickOpd, SX.popTo, SX.cnd, SX.env0, SX.TD.isAgg, SX.TD.isIface, SX.tails, SX.NotAgg, SX.evLookup, SX.evConvH, SX.evPtrEq, SX.isCells, Go.Value.cells, cfg15]
    refine ⟨by (unfold SX.Ob; first | trivial | omega | ((try simp only [SX.inK]); (try simp [SX.den, SX.IsU8, *]); (try omega))), ?_⟩
    intro a11 w11 hr11 _
    refine post_call 22 [.ptr 1 mb 0] hr11 (wanted_none rfl) rfl (callable 22 Try.func22) (square_ok w11 mb _ hr11.all.2.1.1) ?_
    rintro e12 w12 ⟨s1, rfl, hs1, hm12, hb12⟩
    refine ⟨_, rfl, ?_⟩
    have hA11 := hr11.all
    have hA12 := hA11.below hb12
    have hl := SO.rep_lt hA11.1.1
    have h12 := hr11.ret hb12 57 (.ptr 1 s1 0) rfl [(b, false, .cells (tabC 1 0 tabI (u + 1)) 55), (s1, false, .cells (matC (base (2 * e))) 60)] ⟨⟨hA12.1.1, by simp, by simp; omega⟩, ⟨mat_congr hm12 fun i _ => base_twice e i, by simp, by simp⟩, trivial⟩ (by simp) rfl
    refine seg cfg15_ok mixed PanicFree.body 1000 [] [] h12 (by first | trivial | exact HpRep.nil | assumption) (by kernel_rfl) fun s_ hs_ => ?_
    simp (maxSteps := 10000000) [SX.vc, SX.stop, SX.contS, SX.contB, SX.contW, SX.contR, SX.contD, SX.sxStep, SX.stepPure, SX.stepNew, SX.stepStore, SX.stepKeep, SX.guardIx, SX.evOp, SX.opd, SX.opds, SX.optOpd, SX.look, SX.putS, SX.gobs, SX.AllP, SX.leave, SX.lookC, SX.lookB, SX.lookT, SX.lookN, SX.findK, SX.evBuiltin, SX.ints, SX.foldI, SX.evBin, SX.evInt, SX.evStr, SX.evEq, SX.arith, SX.evLoad, SX.shapeUp, SX.evFieldAddr, SX.evField, SX.evIndexAddr, SX.evIndex, SX.evFill, SX.evBuild, SX.szs, SX.cellsV, SX.evNew, SX.evStore, SX.spliceL, SX.SV.cells, SX.evConv, SX.evSlice, SX.bnd, SX.evNil, SX.evUn, SX.evPick, SX.pickOpd, SX.popTo, SX.cnd, SX.env0, SX.TD.isAgg, SX.TD.isIface, SX.tails, SX.NotAgg, SX.evLookup, SX.evConvH, SX.evPtrEq, SX.isCells, Go.Value.cells, cfg15, hhalf]
    refine ⟨by (unfold SX.Ob; first | trivial | omega | ((try simp only [SX.inK]); (try simp [SX.den, SX.IsU8, *]); (try omega))), ?_⟩
    intro a13 w13 hr13 _
    refine post_rnd (d / 2) (by omega) ⟨2 * e, s1, fN e a1, ?_, by omega, hr13.re (by simp [envTo, SX.look, den, xorN_base]) hr13.all rfl rfl⟩
    rw [← hfn, ← fN_add]
    congr 1
    have hdd : d = 2 * (d / 2) + 1 := by omega
    have : e * d = e * (2 * (d / 2) + 1) := by rw [← hdd]
    rw [this, Nat.mul_add, Nat.mul_one, ← Nat.mul_assoc, Nat.mul_comm e 2, Nat.add_comm]
  · have h1 : ((d % 2 : Nat) : Int) = 0 := by omega
    rw [h1] at hand
    refine seg cfg15_ok mixed PanicFree.body 1000 [true, false] [] hr8 (by first | trivial | exact HpRep.nil | assumption) (by kernel_rfl) fun s_ hs_ => ?_
    simp (maxSteps := 10000000) [SX.vc, SX.stop, SX.contS, SX.contB, SX.contW, SX.contR, SX.contD, SX.sxStep, SX.stepPure, SX.stepNew, SX.stepStore, SX.stepKeep, SX.guardIx, SX.evOp, SX.opd, SX.opds, SX.optOpd, SX.look, SX.putS, SX.gobs, SX.AllP, SX.leave, SX.lookC, SX.lookB, SX.lookT, SX.lookN, SX.findK, SX.evBuiltin, SX.ints, SX.foldI, SX.evBin, SX.evInt, SX.evStr, SX.evEq, SX.arith, SX.evLoad, SX.shapeUp, SX.evFieldAddr, SX.evField, SX.evIndexAddr, SX.evIndex, SX.evFill, SX.evBuild, SX.szs, SX.cellsV, SX.evNew, SX.evStore, SX.spliceL, SX.SV.cells, SX.evConv, SX.evSlice, SX.bnd, SX.evNil, SX.evUn, SX.evPick, SX.pickOpd, SX.popTo, SX.cnd, SX.env0, SX.TD.isAgg, SX.TD.isIface, SX.tails, SX.NotAgg, SX.evLookup, SX.evConvH, SX.evPtrEq, SX.isCells, Go.Value.cells, cfg15, hand, hdp]
    refine ⟨by (unfold SX.Ob; first | trivial | omega | ((try simp only [SX.inK]); (try simp [SX.den, SX.IsU8, *]); (try omega))), ?_⟩
    intro a11 w11 hr11 _
    refine post_call 22 [.ptr 1 mb 0] hr11 (wanted_none rfl) rfl (callable 22 Try.func22) (square_ok w11 mb _ hr11.all.2.1.1) ?_
    rintro e12 w12 ⟨s1, rfl, hs1, hm12, hb12⟩
    refine ⟨_, rfl, ?_⟩
    have hA11 := hr11.all
    have hA12 := hA11.below hb12
    have hl := SO.rep_lt hA11.1.1
    have h12 := hr11.ret hb12 57 (.ptr 1 s1 0) rfl [(b, false, .cells (tabC 1 0 tabI (u + 1)) 55), (s1, false, .cells (matC (base (2 * e))) 60)] ⟨⟨hA12.1.1, by simp, by simp; omega⟩, ⟨mat_congr hm12 fun i _ => base_twice e i, by simp, by simp⟩, trivial⟩ (by simp) rfl
    refine seg cfg15_ok mixed PanicFree.body 1000 [] [] h12 (by first | trivial | exact HpRep.nil | assumption) (by kernel_rfl) fun s_ hs_ => ?_
    simp (maxSteps := 10000000) [SX.vc, SX.stop, SX.contS, SX.contB, SX.contW, SX.contR, SX.contD, SX.sxStep, SX.stepPure, SX.stepNew, SX.stepStore, SX.stepKeep, SX.guardIx, SX.evOp, SX.opd, SX.opds, SX.optOpd, SX.look, SX.putS, SX.gobs, SX.AllP, SX.leave, SX.lookC, SX.lookB, SX.lookT, SX.lookN, SX.findK, SX.evBuiltin, SX.ints, SX.foldI, SX.evBin, SX.evInt, SX.evStr, SX.evEq, SX.arith, SX.evLoad, SX.shapeUp, SX.evFieldAddr, SX.evField, SX.evIndexAddr, SX.evIndex, SX.evFill, SX.evBuild, SX.szs, SX.cellsV, SX.evNew, SX.evStore, SX.spliceL, SX.SV.cells, SX.evConv, SX.evSlice, SX.bnd, SX.evNil, SX.evUn, SX.evPick, SX.pickOpd, SX.popTo, SX.cnd, SX.env0, SX.TD.isAgg, SX.TD.isIface, SX.tails, SX.NotAgg, SX.evLookup, SX.evConvH, SX.evPtrEq, SX.isCells, Go.Value.cells, cfg15, hhalf]
    refine ⟨by (unfold SX.Ob; first | trivial | omega | ((try simp only [SX.inK]); (try simp [SX.den, SX.IsU8, *]); (try omega))), ?_⟩
    intro a13 w13 hr13 _
    refine post_rnd (d / 2) (by omega) ⟨2 * e, s1, a1, ?_, by omega, hr13.re (by simp [envTo, SX.look, den]) hr13.all rfl rfl⟩
    rw [← hfn]
    congr 1
    have hdd : d = 2 * (d / 2) := by omega
    have : e * d = e * (2 * (d / 2)) := by rw [← hdd]
    rw [this, ← Nat.mul_assoc, Nat.mul_comm e 2]
end Go.Proofs
