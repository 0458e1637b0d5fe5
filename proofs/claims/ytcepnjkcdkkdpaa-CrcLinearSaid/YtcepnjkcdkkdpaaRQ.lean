/- The document's answer: one bit after another. -/
import Derived.Test.YtcepnjkcdkkdpaaRM
namespace Go.Proofs
set_option linter.unusedVariables false
set_option linter.unusedSimpArgs false
open Go Go.SX Go.RowKit Go.Crc

theorem f_if (r : BitVec 32) : f r = if r.getLsbD 0 then (r >>> 1) ^^^ poly else r >>> 1 := by
  unfold f
  cases r.getLsbD 0 <;> simp
theorem low_of (r : BitVec 32) : rv (r &&& 1#32) = if r.getLsbD 0 then 1 else 0 := by
  have := bit_of r 0 (by omega)
  rw [vsh r 0 (by omega), va1] at this
  simpa using this
theorem vsh1 (a : BitVec 32) : (rv a).fdiv (2 ^ min 1 IntKind.u32.bits) = rv (a >>> 1) := vsh a 1 (by omega)
theorem vxp (a : BitVec 32) : bitv .xor .u32 (rv a) 2197175160 = rv (a ^^^ poly) := bx32 a poly

def RefByte (w : World) (g : Nat → BitVec 8) (n bb o0 N cap : Nat) (t : TypeId) (fz : Nat × Nat) (c : BitVec 32) (k : Nat) (m : Nat) (a : Act) (w' : World) : Prop :=
  ∃ j : Nat, m = 8 - j ∧ j ≤ 8 ∧ RepX (frame0 w) ⟨[(21, 0, .v (.int .i64 j)), (13, 0, .v (.int .i64 k)), (12, 0, .v (.int .i64 n)), (11, 0, .sl 0 bb o0 0 n cap 1), (5, 0, .v (.int .u32 (rv (fN j (go c g k ^^^ zx (g k))))))],
    [(bb, false, .arr o0 N (fun j => [.v (.int .u8 (bv (g j)))]) 1 t fz)], 0, 0, 35, [], [], []⟩ a w'
def RefLoop (w : World) (g : Nat → BitVec 8) (n bb o0 N cap : Nat) (t : TypeId) (fz : Nat × Nat) (c : BitVec 32) (m : Nat) (a : Act) (w' : World) : Prop :=
  ∃ k : Nat, m = n - k ∧ k ≤ n ∧ RepX (frame0 w) ⟨[(13, 0, .v (.int .i64 k)), (12, 0, .v (.int .i64 n)), (11, 0, .sl 0 bb o0 0 n cap 1), (5, 0, .v (.int .u32 (rv (go c g k))))],
    [(bb, false, .arr o0 N (fun j => [.v (.int .u8 (bv (g j)))]) 1 t fz)], 0, 0, 35, [], [], []⟩ a w'
def RefNil (w : World) (c : BitVec 32) (m : Nat) (a : Act) (w' : World) : Prop :=
  m = 0 ∧ RepX (frame0 w) ⟨[(13, 0, .v (.int .i64 0)), (12, 0, .v (.int .i64 0)), (5, 0, .v (.int .u32 (rv c)))], [], 0, 0, 35, [], [], []⟩ a w'

def RefPost (w : World) (r : BitVec 32) (e : Ending) (w' : World) : Prop := e = .returned (.int .u32 (rv r)) ∧ Below w.heap.size w w'

set_option maxRecDepth 100000 in
set_option maxHeartbeats 8000000 in
theorem refUpdate_ok (w : World) (b : Nat) (c : BitVec 32) (v : Value) (n : Nat) (g : Nat → BitVec 8) (hB : BV b w v n g) (hn : n ≤ 9223372036854775807) :
    Calls Try.prog 14 (denL [.v (.int .u32 (rv c)), .v v]).toArray w (RefPost w (~~~ go (~~~ c) g n)) := by
  rcases hB with ⟨rfl, ad, cap, rfl⟩ | ⟨h0, bb, o0, N, cap, t, fz, h1, rfl, h3, h4⟩
  · refine enter (F := frame0 w) Try.func14 rfl [.v (.int .u32 (rv c)), .v (.slice ad 0 cap)] [] (by simp [Try.f14]) trivial (keeps0 w) fun a hr => ?_
    refine seg cfg14_ok mixed PanicFree.body 1000 [] [] hr (by first | trivial | exact HpRep.nil | assumption) (by kernel_rfl) fun s_ hs_ => ?_
    simp (maxSteps := 10000000) [SX.vc, SX.stop, SX.contS, SX.contB, SX.contW, SX.contR, SX.contD, SX.sxStep, SX.stepPure, SX.stepNew, SX.stepStore, SX.stepKeep, SX.guardIx, SX.evOp, SX.opd, SX.opds, SX.optOpd, SX.look, SX.putS, SX.gobs, SX.AllP, SX.leave, SX.lookC, SX.lookB, SX.lookT, SX.lookN, SX.findK, SX.evBuiltin, SX.ints, SX.foldI, SX.evBin, SX.evInt, SX.evStr, SX.evEq, SX.arith, SX.evLoad, SX.shapeUp, SX.evFieldAddr, SX.evField, SX.evIndexAddr, SX.evIndex, SX.evFill, SX.evBuild, SX.szs, SX.cellsV, SX.evNew, SX.evStore, SX.spliceL, SX.SV.cells, SX.evConv, SX.evSlice, SX.bnd, SX.evNil, SX.evUn, SX.evPick, SX.pickOpd, SX.popTo, SX.cnd, SX.env0, SX.TD.isAgg, SX.TD.isIface, SX.tails, SX.NotAgg, SX.evLookup, SX.evConvH, SX.evPtrEq, SX.isCells, Go.Value.cells, cfg14, Try.f14, vx1]
    refine ⟨by (unfold SX.Ob; first | trivial | omega | ((try simp only [SX.inK]); (try simp [SX.den, SX.IsU8, *]); (try omega))), ?_⟩
    intro a1 w1 hr1 _
    refine post_loop (RefNil w (~~~ c)) 0 ⟨rfl, hr1.re (by simp [envTo, SX.look]) trivial rfl rfl⟩ ?_
    rintro m a2 w2 ⟨rfl, hr2⟩
    refine seg cfg14_ok mixed PanicFree.body 1000 [false] [] hr2 (by first | trivial | exact HpRep.nil | assumption) (by kernel_rfl) fun s_ hs_ => ?_
    simp (maxSteps := 10000000) [SX.vc, SX.stop, SX.contS, SX.contB, SX.contW, SX.contR, SX.contD, SX.sxStep, SX.stepPure, SX.stepNew, SX.stepStore, SX.stepKeep, SX.guardIx, SX.evOp, SX.opd, SX.opds, SX.optOpd, SX.look, SX.putS, SX.gobs, SX.AllP, SX.leave, SX.lookC, SX.lookB, SX.lookT, SX.lookN, SX.findK, SX.evBuiltin, SX.ints, SX.foldI, SX.evBin, SX.evInt, SX.evStr, SX.evEq, SX.arith, SX.evLoad, SX.shapeUp, SX.evFieldAddr, SX.evField, SX.evIndexAddr, SX.evIndex, SX.evFill, SX.evBuild, SX.szs, SX.cellsV, SX.evNew, SX.evStore, SX.spliceL, SX.SV.cells, SX.evConv, SX.evSlice, SX.bnd, SX.evNil, SX.evUn, SX.evPick, SX.pickOpd, SX.popTo, SX.cnd, SX.env0, SX.TD.isAgg, SX.TD.isIface, SX.tails, SX.NotAgg, SX.evLookup, SX.evConvH, SX.evPtrEq, SX.isCells, Go.Value.cells, cfg14, vx1]
    refine ⟨by (unfold SX.Ob; first | trivial | omega | ((try simp only [SX.inK]); (try simp [SX.den, SX.IsU8, *]); (try omega))), ?_⟩
    intro a3 w3 hr3 _
    exact post_retn (end1 hr3 rfl rfl ⟨by simp [den, go], hr3.keeps.toBelow⟩).1
  · have hE : HpAll (frame0 w) w [(bb, false, .arr o0 N (fun j => [.v (.int .u8 (bv (g j)))]) 1 t fz)] := ⟨⟨h4, by simp, by simp⟩, trivial⟩
    refine enter (F := frame0 w) Try.func14 rfl [.v (.int .u32 (rv c)), .sl 0 bb o0 0 n cap 1] _ (by simp [Try.f14]) hE (keeps0 w) fun a hr => ?_
    refine seg cfg14_ok mixed PanicFree.body 1000 [] [] hr (by first | trivial | exact HpRep.nil | assumption) (by kernel_rfl) fun s_ hs_ => ?_
    simp (maxSteps := 10000000) [SX.vc, SX.stop, SX.contS, SX.contB, SX.contW, SX.contR, SX.contD, SX.sxStep, SX.stepPure, SX.stepNew, SX.stepStore, SX.stepKeep, SX.guardIx, SX.evOp, SX.opd, SX.opds, SX.optOpd, SX.look, SX.putS, SX.gobs, SX.AllP, SX.leave, SX.lookC, SX.lookB, SX.lookT, SX.lookN, SX.findK, SX.evBuiltin, SX.ints, SX.foldI, SX.evBin, SX.evInt, SX.evStr, SX.evEq, SX.arith, SX.evLoad, SX.shapeUp, SX.evFieldAddr, SX.evField, SX.evIndexAddr, SX.evIndex, SX.evFill, SX.evBuild, SX.szs, SX.cellsV, SX.evNew, SX.evStore, SX.spliceL, SX.SV.cells, SX.evConv, SX.evSlice, SX.bnd, SX.evNil, SX.evUn, SX.evPick, SX.pickOpd, SX.popTo, SX.cnd, SX.env0, SX.TD.isAgg, SX.TD.isIface, SX.tails, SX.NotAgg, SX.evLookup, SX.evConvH, SX.evPtrEq, SX.isCells, Go.Value.cells, cfg14, Try.f14, vx1]
    refine ⟨by (unfold SX.Ob; first | trivial | omega | ((try simp only [SX.inK]); (try simp [SX.den, SX.IsU8, *]); (try omega))), ?_⟩
    intro a1 w1 hr1 _
    refine post_loop (RefLoop w g n bb o0 N cap t fz (~~~ c)) n ⟨0, rfl, by omega, hr1.re (by simp [envTo, SX.look, go]) hr1.all rfl rfl⟩ ?_
    rintro m a2 w2 ⟨k, rfl, hk, hr2⟩
    by_cases hlt : k < n
    · refine seg cfg14_ok mixed PanicFree.body 1000 [true] [] hr2 (by first | trivial | exact HpRep.nil | assumption) (by kernel_rfl) fun s_ hs_ => ?_
      simp (maxSteps := 10000000) [SX.vc, SX.stop, SX.contS, SX.contB, SX.contW, SX.contR, SX.contD, SX.sxStep, SX.stepPure, SX.stepNew, SX.stepStore, SX.stepKeep, SX.guardIx, SX.evOp, SX.opd, SX.opds, SX.optOpd, SX.look, SX.putS, SX.gobs, SX.AllP, SX.leave, SX.lookC, SX.lookB, SX.lookT, SX.lookN, SX.findK, SX.evBuiltin, SX.ints, SX.foldI, SX.evBin, SX.evInt, SX.evStr, SX.evEq, SX.arith, SX.evLoad, SX.shapeUp, SX.evFieldAddr, SX.evField, SX.evIndexAddr, SX.evIndex, SX.evFill, SX.evBuild, SX.szs, SX.cellsV, SX.evNew, SX.evStore, SX.spliceL, SX.SV.cells, SX.evConv, SX.evSlice, SX.bnd, SX.evNil, SX.evUn, SX.evPick, SX.pickOpd, SX.popTo, SX.cnd, SX.env0, SX.TD.isAgg, SX.TD.isIface, SX.tails, SX.NotAgg, SX.evLookup, SX.evConvH, SX.evPtrEq, SX.isCells, Go.Value.cells, cfg14, vzx, vx32]
      refine ⟨by (unfold SX.Ob; first | trivial | omega | ((try simp only [SX.inK]); (try simp [SX.den, SX.IsU8, *]); (try omega))), ?_⟩
      intro a3 w3 hr3 _
      refine post_loop (RefByte w g n bb o0 N cap t fz (~~~ c) k) 8 ⟨0, rfl, by omega, hr3.re (by simp [envTo, SX.look, fN]) hr3.all rfl rfl⟩ ?_
      rintro m a4 w4 ⟨j, rfl, hj, hr4⟩
      by_cases hlj : j < 8
      · have hlow := low_of (fN j (go (~~~ c) g k ^^^ zx (g k)))
        have hf := f_if (fN j (go (~~~ c) g k ^^^ zx (g k)))
        cases hb : (fN j (go (~~~ c) g k ^^^ zx (g k))).getLsbD 0 with
        | false =>
          rw [hb] at hlow hf
          simp only [Bool.false_eq_true, if_false] at hlow hf
          refine seg cfg14_ok mixed PanicFree.body 1000 [true, false] [] hr4 (by first | trivial | exact HpRep.nil | assumption) (by kernel_rfl) fun s_ hs_ => ?_
          simp (maxSteps := 10000000) [SX.vc, SX.stop, SX.contS, SX.contB, SX.contW, SX.contR, SX.contD, SX.sxStep, SX.stepPure, SX.stepNew, SX.stepStore, SX.stepKeep, SX.guardIx, SX.evOp, SX.opd, SX.opds, SX.optOpd, SX.look, SX.putS, SX.gobs, SX.AllP, SX.leave, SX.lookC, SX.lookB, SX.lookT, SX.lookN, SX.findK, SX.evBuiltin, SX.ints, SX.foldI, SX.evBin, SX.evInt, SX.evStr, SX.evEq, SX.arith, SX.evLoad, SX.shapeUp, SX.evFieldAddr, SX.evField, SX.evIndexAddr, SX.evIndex, SX.evFill, SX.evBuild, SX.szs, SX.cellsV, SX.evNew, SX.evStore, SX.spliceL, SX.SV.cells, SX.evConv, SX.evSlice, SX.bnd, SX.evNil, SX.evUn, SX.evPick, SX.pickOpd, SX.popTo, SX.cnd, SX.env0, SX.TD.isAgg, SX.TD.isIface, SX.tails, SX.NotAgg, SX.evLookup, SX.evConvH, SX.evPtrEq, SX.isCells, Go.Value.cells, cfg14, va1, vsh1, vxp, hlow]
          refine ⟨by (unfold SX.Ob; first | trivial | omega | ((try simp only [SX.inK]); (try simp [SX.den, SX.IsU8, *]); (try omega))), ?_⟩
          intro a5 w5 hr5 _
          exact post_rnd (8 - (j + 1)) (by omega) ⟨j + 1, rfl, hlj, hr5.re (by simp [envTo, SX.look, den, fN, hf]) hr5.all rfl rfl⟩
        | true =>
          rw [hb] at hlow hf
          simp only [if_true] at hlow hf
          refine seg cfg14_ok mixed PanicFree.body 1000 [true, true] [] hr4 (by first | trivial | exact HpRep.nil | assumption) (by kernel_rfl) fun s_ hs_ => ?_
          simp (maxSteps := 10000000) [SX.vc, SX.stop, SX.contS, SX.contB, SX.contW, SX.contR, SX.contD, SX.sxStep, SX.stepPure, SX.stepNew, SX.stepStore, SX.stepKeep, SX.guardIx, SX.evOp, SX.opd, SX.opds, SX.optOpd, SX.look, SX.putS, SX.gobs, SX.AllP, SX.leave, SX.lookC, SX.lookB, SX.lookT, SX.lookN, SX.findK, SX.evBuiltin, SX.ints, SX.foldI, SX.evBin, SX.evInt, SX.evStr, SX.evEq, SX.arith, SX.evLoad, SX.shapeUp, SX.evFieldAddr, SX.evField, SX.evIndexAddr, SX.evIndex, SX.evFill, SX.evBuild, SX.szs, SX.cellsV, SX.evNew, SX.evStore, SX.spliceL, SX.SV.cells, SX.evConv, SX.evSlice, SX.bnd, SX.evNil, SX.evUn, SX.evPick, SX.pickOpd, SX.popTo, SX.cnd, SX.env0, SX.TD.isAgg, SX.TD.isIface, SX.tails, SX.NotAgg, SX.evLookup, SX.evConvH, SX.evPtrEq, SX.isCells, Go.Value.cells, cfg14, va1, vsh1, vxp, hlow]
          refine ⟨by (unfold SX.Ob; first | trivial | omega | ((try simp only [SX.inK]); (try simp [SX.den, SX.IsU8, *]); (try omega))), ?_⟩
          intro a5 w5 hr5 _
          exact post_rnd (8 - (j + 1)) (by omega) ⟨j + 1, rfl, hlj, hr5.re (by simp [envTo, SX.look, den, fN, hf]) hr5.all rfl rfl⟩
      · obtain rfl : j = 8 := by omega
        refine seg cfg14_ok mixed PanicFree.body 1000 [false] [] hr4 (by first | trivial | exact HpRep.nil | assumption) (by kernel_rfl) fun s_ hs_ => ?_
        simp (maxSteps := 10000000) [SX.vc, SX.stop, SX.contS, SX.contB, SX.contW, SX.contR, SX.contD, SX.sxStep, SX.stepPure, SX.stepNew, SX.stepStore, SX.stepKeep, SX.guardIx, SX.evOp, SX.opd, SX.opds, SX.optOpd, SX.look, SX.putS, SX.gobs, SX.AllP, SX.leave, SX.lookC, SX.lookB, SX.lookT, SX.lookN, SX.findK, SX.evBuiltin, SX.ints, SX.foldI, SX.evBin, SX.evInt, SX.evStr, SX.evEq, SX.arith, SX.evLoad, SX.shapeUp, SX.evFieldAddr, SX.evField, SX.evIndexAddr, SX.evIndex, SX.evFill, SX.evBuild, SX.szs, SX.cellsV, SX.evNew, SX.evStore, SX.spliceL, SX.SV.cells, SX.evConv, SX.evSlice, SX.bnd, SX.evNil, SX.evUn, SX.evPick, SX.pickOpd, SX.popTo, SX.cnd, SX.env0, SX.TD.isAgg, SX.TD.isIface, SX.tails, SX.NotAgg, SX.evLookup, SX.evConvH, SX.evPtrEq, SX.isCells, Go.Value.cells, cfg14]
        refine ⟨by (unfold SX.Ob; first | trivial | omega | ((try simp only [SX.inK]); (try simp [SX.den, SX.IsU8, *]); (try omega))), ?_⟩
        intro a5 w5 hr5 _
        exact post_rnd (n - (k + 1)) (by omega) ⟨k + 1, rfl, hlt, hr5.re (by simp [envTo, SX.look, den, go, step_eq]) hr5.all rfl rfl⟩
    · obtain rfl : k = n := by omega
      refine seg cfg14_ok mixed PanicFree.body 1000 [false] [] hr2 (by first | trivial | exact HpRep.nil | assumption) (by kernel_rfl) fun s_ hs_ => ?_
      simp (maxSteps := 10000000) [SX.vc, SX.stop, SX.contS, SX.contB, SX.contW, SX.contR, SX.contD, SX.sxStep, SX.stepPure, SX.stepNew, SX.stepStore, SX.stepKeep, SX.guardIx, SX.evOp, SX.opd, SX.opds, SX.optOpd, SX.look, SX.putS, SX.gobs, SX.AllP, SX.leave, SX.lookC, SX.lookB, SX.lookT, SX.lookN, SX.findK, SX.evBuiltin, SX.ints, SX.foldI, SX.evBin, SX.evInt, SX.evStr, SX.evEq, SX.arith, SX.evLoad, SX.shapeUp, SX.evFieldAddr, SX.evField, SX.evIndexAddr, SX.evIndex, SX.evFill, SX.evBuild, SX.szs, SX.cellsV, SX.evNew, SX.evStore, SX.spliceL, SX.SV.cells, SX.evConv, SX.evSlice, SX.bnd, SX.evNil, SX.evUn, SX.evPick, SX.pickOpd, SX.popTo, SX.cnd, SX.env0, SX.TD.isAgg, SX.TD.isIface, SX.tails, SX.NotAgg, SX.evLookup, SX.evConvH, SX.evPtrEq, SX.isCells, Go.Value.cells, cfg14, vx1]
      refine ⟨by (unfold SX.Ob; first | trivial | omega | ((try simp only [SX.inK]); (try simp [SX.den, SX.IsU8, *]); (try omega))), ?_⟩
      intro a3 w3 hr3 _
      exact post_retn (end1 hr3 rfl rfl ⟨rfl, hr3.keeps.toBelow⟩).1

/-! ### The document's sum of texts -/
def RSumNil (w : World) (d : Nat) (a : Act) (w' : World) : Prop :=
  d = 0 ∧ RepX (frame0 w) ⟨[(8, 0, .v (.int .i64 0)), (7, 0, .v (.int .i64 0)), (3, 0, .v (.int .u32 0))], [], 0, 0, 17, [], [], []⟩ a w'

def RSumLoop (w : World) (b m : Nat) (ns : Nat → Nat) (gs : Nat → Nat → BitVec 8) (lb o0 N cap : Nat) (t : TypeId) (fz : Nat × Nat) (vs : Nat → Value) (d : Nat) (a : Act) (w' : World) : Prop :=
  ∃ k : Nat, d = m - k ∧ k ≤ m ∧ (∀ j, j < m → BV b w' (vs j) (ns j) (gs j) ∧ ns j ≤ 9223372036854775807) ∧
    RepX (frame0 w) ⟨[(8, 0, .v (.int .i64 k)), (7, 0, .v (.int .i64 m)), (6, 0, .sl 0 lb o0 0 m cap 1), (3, 0, .v (.int .u32 (rv (~~~ sumN ns gs k))))],
    [(lb, false, .arr o0 N (fun j => [.v (vs j)]) 1 t fz)], 0, 0, 17, [], [], []⟩ a w'

theorem rv_nots : rv (~~~ ones) = 0 := by decide

set_option maxRecDepth 100000 in
set_option maxHeartbeats 8000000 in
theorem refSum_ok (w : World) (b : Nat) (v : Value) (m : Nat) (ns : Nat → Nat) (gs : Nat → Nat → BitVec 8) (hL : LV b w v m ns gs) (hm : m ≤ 9223372036854775807) :
    Calls Try.prog 12 (denL [.v v]).toArray w (RefPost w (~~~ sumN ns gs m)) := by
  rcases hL with ⟨rfl, ad, cap, rfl⟩ | ⟨h0, lb, o0, N, cap, t, fz, vs, h1, rfl, h3, h4, h5⟩
  · refine enter (F := frame0 w) Try.func12 rfl [.v (.slice ad 0 cap)] [] (by simp [Try.f12]) trivial (keeps0 w) fun a hr => ?_
    refine seg cfg12_ok mixed PanicFree.body 1000 [] [] hr (by first | trivial | exact HpRep.nil | assumption) (by kernel_rfl) fun s_ hs_ => ?_
    simp (maxSteps := 10000000) [SX.vc, SX.stop, SX.contS, SX.contB, SX.contW, SX.contR, SX.contD, SX.sxStep, SX.stepPure, SX.stepNew, SX.stepStore, SX.stepKeep, SX.guardIx, SX.evOp, SX.opd, SX.opds, SX.optOpd, SX.look, SX.putS, SX.gobs, SX.AllP, SX.leave, SX.lookC, SX.lookB, SX.lookT, SX.lookN, SX.findK, SX.evBuiltin, SX.ints, SX.foldI, SX.evBin, SX.evInt, SX.evStr, SX.evEq, SX.arith, SX.evLoad, SX.shapeUp, SX.evFieldAddr, SX.evField, SX.evIndexAddr, SX.evIndex, SX.evFill, SX.evBuild, SX.szs, SX.cellsV, SX.evNew, SX.evStore, SX.spliceL, SX.SV.cells, SX.evConv, SX.evSlice, SX.bnd, SX.evNil, SX.evUn, SX.evPick, SX.pickOpd, SX.popTo, SX.cnd, SX.env0, SX.TD.isAgg, SX.TD.isIface, SX.tails, SX.NotAgg, SX.evLookup, SX.evConvH, SX.evPtrEq, SX.isCells, Go.Value.cells, cfg12, Try.f12]
    refine ⟨by (unfold SX.Ob; first | trivial | omega | ((try simp only [SX.inK]); (try simp [SX.den, SX.IsU8, *]); (try omega))), ?_⟩
    intro a1 w1 hr1 _
    refine post_loop (RSumNil w) 0 ⟨rfl, hr1.re (by simp [envTo, SX.look]) trivial rfl rfl⟩ ?_
    rintro d a2 w2 ⟨rfl, hr2⟩
    refine seg cfg12_ok mixed PanicFree.body 1000 [false] [] hr2 (by first | trivial | exact HpRep.nil | assumption) (by kernel_rfl) fun s_ hs_ => ?_
    simp (maxSteps := 10000000) [SX.vc, SX.stop, SX.contS, SX.contB, SX.contW, SX.contR, SX.contD, SX.sxStep, SX.stepPure, SX.stepNew, SX.stepStore, SX.stepKeep, SX.guardIx, SX.evOp, SX.opd, SX.opds, SX.optOpd, SX.look, SX.putS, SX.gobs, SX.AllP, SX.leave, SX.lookC, SX.lookB, SX.lookT, SX.lookN, SX.findK, SX.evBuiltin, SX.ints, SX.foldI, SX.evBin, SX.evInt, SX.evStr, SX.evEq, SX.arith, SX.evLoad, SX.shapeUp, SX.evFieldAddr, SX.evField, SX.evIndexAddr, SX.evIndex, SX.evFill, SX.evBuild, SX.szs, SX.cellsV, SX.evNew, SX.evStore, SX.spliceL, SX.SV.cells, SX.evConv, SX.evSlice, SX.bnd, SX.evNil, SX.evUn, SX.evPick, SX.pickOpd, SX.popTo, SX.cnd, SX.env0, SX.TD.isAgg, SX.TD.isIface, SX.tails, SX.NotAgg, SX.evLookup, SX.evConvH, SX.evPtrEq, SX.isCells, Go.Value.cells, cfg12]
    refine ⟨by (unfold SX.Ob; first | trivial | omega | ((try simp only [SX.inK]); (try simp [SX.den, SX.IsU8, *]); (try omega))), ?_⟩
    intro a3 w3 hr3 _
    exact post_retn (end1 hr3 rfl rfl ⟨by simp only [sumN, rv_nots]; rfl, hr3.keeps.toBelow⟩).1
  · have hE : HpAll (frame0 w) w [(lb, false, .arr o0 N (fun j => [.v (vs j)]) 1 t fz)] := ⟨⟨h4, by simp, by simp⟩, trivial⟩
    refine enter (F := frame0 w) Try.func12 rfl [.sl 0 lb o0 0 m cap 1] _ (by simp [Try.f12]) hE (keeps0 w) fun a hr => ?_
    refine seg cfg12_ok mixed PanicFree.body 1000 [] [] hr (by first | trivial | exact HpRep.nil | assumption) (by kernel_rfl) fun s_ hs_ => ?_
    simp (maxSteps := 10000000) [SX.vc, SX.stop, SX.contS, SX.contB, SX.contW, SX.contR, SX.contD, SX.sxStep, SX.stepPure, SX.stepNew, SX.stepStore, SX.stepKeep, SX.guardIx, SX.evOp, SX.opd, SX.opds, SX.optOpd, SX.look, SX.putS, SX.gobs, SX.AllP, SX.leave, SX.lookC, SX.lookB, SX.lookT, SX.lookN, SX.findK, SX.evBuiltin, SX.ints, SX.foldI, SX.evBin, SX.evInt, SX.evStr, SX.evEq, SX.arith, SX.evLoad, SX.shapeUp, SX.evFieldAddr, SX.evField, SX.evIndexAddr, SX.evIndex, SX.evFill, SX.evBuild, SX.szs, SX.cellsV, SX.evNew, SX.evStore, SX.spliceL, SX.SV.cells, SX.evConv, SX.evSlice, SX.bnd, SX.evNil, SX.evUn, SX.evPick, SX.pickOpd, SX.popTo, SX.cnd, SX.env0, SX.TD.isAgg, SX.TD.isIface, SX.tails, SX.NotAgg, SX.evLookup, SX.evConvH, SX.evPtrEq, SX.isCells, Go.Value.cells, cfg12, Try.f12]
    refine ⟨by (unfold SX.Ob; first | trivial | omega | ((try simp only [SX.inK]); (try simp [SX.den, SX.IsU8, *]); (try omega))), ?_⟩
    intro a1 w1 hr1 _
    refine post_loop (RSumLoop w b m ns gs lb o0 N cap t fz vs) m ⟨0, rfl, by omega, fun j hj => ⟨(h5 j hj).1.below hr1.keeps.toBelow, (h5 j hj).2⟩, hr1.re (by simp [envTo, SX.look, sumN, rv_nots]) hr1.all rfl rfl⟩ ?_
    clear hr hr1 hE
    rintro d a2 w2 ⟨k, rfl, hk, hB2, hr2⟩
    by_cases hlt : k < m
    · refine seg cfg12_ok mixed PanicFree.body 1000 [true] [] hr2.rebase (by first | trivial | exact HpRep.nil | assumption) (by kernel_rfl) fun s_ hs_ => ?_
      simp (maxSteps := 10000000) [SX.vc, SX.stop, SX.contS, SX.contB, SX.contW, SX.contR, SX.contD, SX.sxStep, SX.stepPure, SX.stepNew, SX.stepStore, SX.stepKeep, SX.guardIx, SX.evOp, SX.opd, SX.opds, SX.optOpd, SX.look, SX.putS, SX.gobs, SX.AllP, SX.leave, SX.lookC, SX.lookB, SX.lookT, SX.lookN, SX.findK, SX.evBuiltin, SX.ints, SX.foldI, SX.evBin, SX.evInt, SX.evStr, SX.evEq, SX.arith, SX.evLoad, SX.shapeUp, SX.evFieldAddr, SX.evField, SX.evIndexAddr, SX.evIndex, SX.evFill, SX.evBuild, SX.szs, SX.cellsV, SX.evNew, SX.evStore, SX.spliceL, SX.SV.cells, SX.evConv, SX.evSlice, SX.bnd, SX.evNil, SX.evUn, SX.evPick, SX.pickOpd, SX.popTo, SX.cnd, SX.env0, SX.TD.isAgg, SX.TD.isIface, SX.tails, SX.NotAgg, SX.evLookup, SX.evConvH, SX.evPtrEq, SX.isCells, Go.Value.cells, cfg12]
      refine ⟨by (unfold SX.Ob; first | trivial | omega | ((try simp only [SX.inK]); (try simp [SX.den, SX.IsU8, *]); (try omega))), ?_⟩
      intro a3 w3 hr3' _
      have hr3 := hr2.unbase hr3'
      have hb3 : Below w2.heap.size w2 w3 := by simpa [mutB] using hr3'.keeps.toBelow
      refine post_call 14 [.v (.int .u32 (rv (~~~ sumN ns gs k))), .v (vs k)] hr3 (wanted_none rfl) rfl (callable 14 Try.func14) (refUpdate_ok w3 b _ (vs k) (ns k) (gs k) ((hB2 k hlt).1.below hb3) (hB2 k hlt).2) ?_
      rintro e w4 ⟨he, hb4⟩
      have e9 : ~~~ go (~~~ ~~~ sumN ns gs k) (gs k) (ns k) = ~~~ sumN ns gs (k + 1) := by simp [sumN]
      rw [e9] at he
      subst he
      refine ⟨_, rfl, ?_⟩
      have h4 := hr3.ret hb4 14 (.v (.int .u32 (rv (~~~ sumN ns gs (k + 1))))) rfl _ (hr3.all.below hb4) (by simp) rfl
      refine seg cfg12_ok mixed PanicFree.body 1000 [] [] h4.rebase (by first | trivial | exact HpRep.nil | assumption) (by kernel_rfl) fun s_ hs_ => ?_
      simp (maxSteps := 10000000) [SX.vc, SX.stop, SX.contS, SX.contB, SX.contW, SX.contR, SX.contD, SX.sxStep, SX.stepPure, SX.stepNew, SX.stepStore, SX.stepKeep, SX.guardIx, SX.evOp, SX.opd, SX.opds, SX.optOpd, SX.look, SX.putS, SX.gobs, SX.AllP, SX.leave, SX.lookC, SX.lookB, SX.lookT, SX.lookN, SX.findK, SX.evBuiltin, SX.ints, SX.foldI, SX.evBin, SX.evInt, SX.evStr, SX.evEq, SX.arith, SX.evLoad, SX.shapeUp, SX.evFieldAddr, SX.evField, SX.evIndexAddr, SX.evIndex, SX.evFill, SX.evBuild, SX.szs, SX.cellsV, SX.evNew, SX.evStore, SX.spliceL, SX.SV.cells, SX.evConv, SX.evSlice, SX.bnd, SX.evNil, SX.evUn, SX.evPick, SX.pickOpd, SX.popTo, SX.cnd, SX.env0, SX.TD.isAgg, SX.TD.isIface, SX.tails, SX.NotAgg, SX.evLookup, SX.evConvH, SX.evPtrEq, SX.isCells, Go.Value.cells, cfg12]
      refine ⟨by (unfold SX.Ob; first | trivial | omega | ((try simp only [SX.inK]); (try simp [SX.den, SX.IsU8, *]); (try omega))), ?_⟩
      intro a5 w5 hr5' _
      have hr5 := h4.unbase hr5'
      have hb5 : Below w4.heap.size w4 w5 := by simpa [mutB] using hr5'.keeps.toBelow
      exact post_rnd (m - (k + 1)) (by omega) ⟨k + 1, rfl, hlt, fun j hj => ⟨(((hB2 j hj).1.below hb3).below hb4).below hb5, (hB2 j hj).2⟩, hr5.re (by simp [envTo, SX.look, den]) hr5.all rfl rfl⟩
    · obtain rfl : k = m := by omega
      refine seg cfg12_ok mixed PanicFree.body 1000 [false] [] hr2 (by first | trivial | exact HpRep.nil | assumption) (by kernel_rfl) fun s_ hs_ => ?_
      simp (maxSteps := 10000000) [SX.vc, SX.stop, SX.contS, SX.contB, SX.contW, SX.contR, SX.contD, SX.sxStep, SX.stepPure, SX.stepNew, SX.stepStore, SX.stepKeep, SX.guardIx, SX.evOp, SX.opd, SX.opds, SX.optOpd, SX.look, SX.putS, SX.gobs, SX.AllP, SX.leave, SX.lookC, SX.lookB, SX.lookT, SX.lookN, SX.findK, SX.evBuiltin, SX.ints, SX.foldI, SX.evBin, SX.evInt, SX.evStr, SX.evEq, SX.arith, SX.evLoad, SX.shapeUp, SX.evFieldAddr, SX.evField, SX.evIndexAddr, SX.evIndex, SX.evFill, SX.evBuild, SX.szs, SX.cellsV, SX.evNew, SX.evStore, SX.spliceL, SX.SV.cells, SX.evConv, SX.evSlice, SX.bnd, SX.evNil, SX.evUn, SX.evPick, SX.pickOpd, SX.popTo, SX.cnd, SX.env0, SX.TD.isAgg, SX.TD.isIface, SX.tails, SX.NotAgg, SX.evLookup, SX.evConvH, SX.evPtrEq, SX.isCells, Go.Value.cells, cfg12]
      refine ⟨by (unfold SX.Ob; first | trivial | omega | ((try simp only [SX.inK]); (try simp [SX.den, SX.IsU8, *]); (try omega))), ?_⟩
      intro a3 w3 hr3 _
      exact post_retn (end1 hr3 rfl rfl ⟨rfl, hr3.keeps.toBelow⟩).1
end Go.Proofs
