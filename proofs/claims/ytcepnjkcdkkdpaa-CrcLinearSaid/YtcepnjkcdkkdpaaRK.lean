/- Whether texts are long. -/
import Derived.Test.YtcepnjkcdkkdpaaRJ
namespace Go.Proofs
set_option linter.unusedVariables false
set_option linter.unusedSimpArgs false
open Go Go.SX Go.RowKit Go.Crc

/-- What is counted, as it would be if it went round. -/
def bigX (ns : Nat → Nat) : Nat → Int
  | 0 => 0
  | k + 1 => IntKind.i64.wrap (bigX ns k + IntKind.i64.wrap ((ns k : Int) + 1))
def BoolPost (w : World) (t : Bool) (e : Ending) (w' : World) : Prop := e = .returned (.bool t) ∧ Below w.heap.size w w'
theorem bigX_one {ns : Nat → Nat} (h : ns 0 ≤ 1000000000000000000) : bigX ns 1 = (ns 0 : Int) + 1 := by
  simp only [bigX]
  rw [wrap_inK (x := (ns 0 : Int) + 1) (by unfold inK; omega), wrap_inK (by unfold inK; omega)]
  omega

/-- Slices of bytes, of which only the lengths matter. -/
def LB (w : World) (v : Value) (m : Nat) (ns : Nat → Nat) : Prop :=
  (m = 0 ∧ ∃ a cap, v = .slice a 0 cap) ∨
  (0 < m ∧ ∃ (lb o0 N cap : Nat) (u : TypeId) (fz : Nat × Nat) (vs : Nat → Value), v = .slice (some ⟨lb, o0, none⟩) m cap ∧ m ≤ N ∧ (SO.arr o0 N (fun j => [.v (vs j)]) 1 u fz).rep w lb ∧ ∀ j, j < m → ∃ a c, vs j = .slice a (ns j) c)

theorem LV.lens {b : Nat} {w : World} {v : Value} {m : Nat} {ns : Nat → Nat} {gs : Nat → Nat → BitVec 8} (h : LV b w v m ns gs) : LB w v m ns := by
  rcases h with h | ⟨h0, lb, o0, N, cap, u, fz, vs, h1, h2, h3, h4, h5⟩
  · exact .inl h
  · refine .inr ⟨h0, lb, o0, N, cap, u, fz, vs, h2, h3, h4, fun j hj => ?_⟩
    rcases (h5 j hj).1 with ⟨h, a, c, e⟩ | ⟨_, bb, o1, N1, c1, _, _, _, e, _⟩
    · exact ⟨a, c, by rw [h]; exact e⟩
    · exact ⟨_, _, e⟩

def BigNil (w : World) (d : Nat) (a : Act) (w' : World) : Prop :=
  d = 0 ∧ RepX (frame0 w) ⟨[(8, 0, .v (.int .i64 0)), (7, 0, .v (.int .i64 0)), (3, 0, .v (.int .i64 0))], [], 0, 0, 20, [], [], []⟩ a w'

def BigLoop (w : World) (m : Nat) (ns : Nat → Nat) (lb o0 N cap : Nat) (t : TypeId) (fz : Nat × Nat) (vs : Nat → Value) (d : Nat) (a : Act) (w' : World) : Prop :=
  ∃ k : Nat, d = m - k ∧ k ≤ m ∧
    RepX (frame0 w) ⟨[(8, 0, .v (.int .i64 k)), (7, 0, .v (.int .i64 m)), (6, 0, .sl 0 lb o0 0 m cap 1), (3, 0, .v (.int .i64 (bigX ns k)))], [(lb, false, .arr o0 N (fun j => [.v (vs j)]) 1 t fz)], 0, 0, 20, [], [], []⟩ a w'

set_option maxRecDepth 100000 in
set_option maxHeartbeats 8000000 in
theorem big_ok (w : World) (v : Value) (m : Nat) (ns : Nat → Nat) (hL : LB w v m ns) (hm : m ≤ 9223372036854775807) : Calls Try.prog 9 (denL [.v v]).toArray w (BoolPost w (decide (bigX ns m > 20000))) := by
  rcases hL with ⟨rfl, ad, cap, rfl⟩ | ⟨h0, lb, o0, N, cap, t, fz, vs, rfl, h3, h4, h5⟩
  · refine enter (F := frame0 w) Try.func9 rfl [.v (.slice ad 0 cap)] [] (by simp [Try.f9]) trivial (keeps0 w) fun a hr => ?_
    refine seg cfg9_ok mixed PanicFree.body 1000 [] [] hr (by first | trivial | exact HpRep.nil | assumption) (by kernel_rfl) fun s_ hs_ => ?_
    simp (maxSteps := 10000000) [SX.vc, SX.stop, SX.contS, SX.contB, SX.contW, SX.contR, SX.contD, SX.sxStep, SX.stepPure, SX.stepNew, SX.stepStore, SX.stepKeep, SX.guardIx, SX.evOp, SX.opd, SX.opds, SX.optOpd, SX.look, SX.putS, SX.gobs, SX.AllP, SX.leave, SX.lookC, SX.lookB, SX.lookT, SX.lookN, SX.findK, SX.evBuiltin, SX.ints, SX.foldI, SX.evBin, SX.evInt, SX.evStr, SX.evEq, SX.arith, SX.evLoad, SX.shapeUp, SX.evFieldAddr, SX.evField, SX.evIndexAddr, SX.evIndex, SX.evFill, SX.evBuild, SX.szs, SX.cellsV, SX.evNew, SX.evStore, SX.spliceL, SX.SV.cells, SX.evConv, SX.evSlice, SX.bnd, SX.evNil, SX.evUn, SX.evPick, SX.pickOpd, SX.popTo, SX.cnd, SX.env0, SX.TD.isAgg, SX.TD.isIface, SX.tails, SX.NotAgg, SX.evLookup, SX.evConvH, SX.evPtrEq, SX.isCells, Go.Value.cells, cfg9, Try.f9]
    refine ⟨by (unfold SX.Ob; first | trivial | omega | ((try simp only [SX.inK]); (try simp [SX.den, SX.IsU8, *]); (try omega))), ?_⟩
    intro a1 w1 hr1 _
    refine post_loop (BigNil w) 0 ⟨rfl, hr1.re (by simp [envTo, SX.look]) trivial rfl rfl⟩ ?_
    rintro d a2 w2 ⟨rfl, hr2⟩
    refine seg cfg9_ok mixed PanicFree.body 1000 [false] [] hr2 (by first | trivial | exact HpRep.nil | assumption) (by kernel_rfl) fun s_ hs_ => ?_
    simp (maxSteps := 10000000) [SX.vc, SX.stop, SX.contS, SX.contB, SX.contW, SX.contR, SX.contD, SX.sxStep, SX.stepPure, SX.stepNew, SX.stepStore, SX.stepKeep, SX.guardIx, SX.evOp, SX.opd, SX.opds, SX.optOpd, SX.look, SX.putS, SX.gobs, SX.AllP, SX.leave, SX.lookC, SX.lookB, SX.lookT, SX.lookN, SX.findK, SX.evBuiltin, SX.ints, SX.foldI, SX.evBin, SX.evInt, SX.evStr, SX.evEq, SX.arith, SX.evLoad, SX.shapeUp, SX.evFieldAddr, SX.evField, SX.evIndexAddr, SX.evIndex, SX.evFill, SX.evBuild, SX.szs, SX.cellsV, SX.evNew, SX.evStore, SX.spliceL, SX.SV.cells, SX.evConv, SX.evSlice, SX.bnd, SX.evNil, SX.evUn, SX.evPick, SX.pickOpd, SX.popTo, SX.cnd, SX.env0, SX.TD.isAgg, SX.TD.isIface, SX.tails, SX.NotAgg, SX.evLookup, SX.evConvH, SX.evPtrEq, SX.isCells, Go.Value.cells, cfg9]
    refine ⟨by (unfold SX.Ob; first | trivial | omega | ((try simp only [SX.inK]); (try simp [SX.den, SX.IsU8, *]); (try omega))), ?_⟩
    intro a3 w3 hr3 _
    exact post_retn (end1 hr3 rfl rfl ⟨by simp [den, bigX], hr3.keeps.toBelow⟩).1
  · have hE : HpAll (frame0 w) w [(lb, false, .arr o0 N (fun j => [.v (vs j)]) 1 t fz)] := ⟨⟨h4, by simp, by simp⟩, trivial⟩
    refine enter (F := frame0 w) Try.func9 rfl [.sl 0 lb o0 0 m cap 1] _ (by simp [Try.f9]) hE (keeps0 w) fun a hr => ?_
    refine seg cfg9_ok mixed PanicFree.body 1000 [] [] hr (by first | trivial | exact HpRep.nil | assumption) (by kernel_rfl) fun s_ hs_ => ?_
    simp (maxSteps := 10000000) [SX.vc, SX.stop, SX.contS, SX.contB, SX.contW, SX.contR, SX.contD, SX.sxStep, SX.stepPure, SX.stepNew, SX.stepStore, SX.stepKeep, SX.guardIx, SX.evOp, SX.opd, SX.opds, SX.optOpd, SX.look, SX.putS, SX.gobs, SX.AllP, SX.leave, SX.lookC, SX.lookB, SX.lookT, SX.lookN, SX.findK, SX.evBuiltin, SX.ints, SX.foldI, SX.evBin, SX.evInt, SX.evStr, SX.evEq, SX.arith, SX.evLoad, SX.shapeUp, SX.evFieldAddr, SX.evField, SX.evIndexAddr, SX.evIndex, SX.evFill, SX.evBuild, SX.szs, SX.cellsV, SX.evNew, SX.evStore, SX.spliceL, SX.SV.cells, SX.evConv, SX.evSlice, SX.bnd, SX.evNil, SX.evUn, SX.evPick, SX.pickOpd, SX.popTo, SX.cnd, SX.env0, SX.TD.isAgg, SX.TD.isIface, SX.tails, SX.NotAgg, SX.evLookup, SX.evConvH, SX.evPtrEq, SX.isCells, Go.Value.cells, cfg9, Try.f9]
    refine ⟨by (unfold SX.Ob; first | trivial | omega | ((try simp only [SX.inK]); (try simp [SX.den, SX.IsU8, *]); (try omega))), ?_⟩
    intro a1 w1 hr1 _
    refine post_loop (BigLoop w m ns lb o0 N cap t fz vs) m ⟨0, rfl, by omega, hr1.re (by simp [envTo, SX.look, bigX]) hr1.all rfl rfl⟩ ?_
    rintro d a2 w2 ⟨k, rfl, hk, hr2⟩
    by_cases hlt : k < m
    · obtain ⟨av, cv, hv⟩ := h5 k hlt
      have hwr : IntKind.i64.wrap ((k : Int) + 1) = (k : Int) + 1 := wrap_inK (by unfold inK; omega)
      refine seg cfg9_ok mixed PanicFree.body 1000 [true] [] hr2 (by first | trivial | exact HpRep.nil | assumption) (by kernel_rfl) fun s_ hs_ => ?_
      simp (maxSteps := 10000000) [SX.vc, SX.stop, SX.contS, SX.contB, SX.contW, SX.contR, SX.contD, SX.sxStep, SX.stepPure, SX.stepNew, SX.stepStore, SX.stepKeep, SX.guardIx, SX.evOp, SX.opd, SX.opds, SX.optOpd, SX.look, SX.putS, SX.gobs, SX.AllP, SX.leave, SX.lookC, SX.lookB, SX.lookT, SX.lookN, SX.findK, SX.evBuiltin, SX.ints, SX.foldI, SX.evBin, SX.evInt, SX.evStr, SX.evEq, SX.arith, SX.evLoad, SX.shapeUp, SX.evFieldAddr, SX.evField, SX.evIndexAddr, SX.evIndex, SX.evFill, SX.evBuild, SX.szs, SX.cellsV, SX.evNew, SX.evStore, SX.spliceL, SX.SV.cells, SX.evConv, SX.evSlice, SX.bnd, SX.evNil, SX.evUn, SX.evPick, SX.pickOpd, SX.popTo, SX.cnd, SX.env0, SX.TD.isAgg, SX.TD.isIface, SX.tails, SX.NotAgg, SX.evLookup, SX.evConvH, SX.evPtrEq, SX.isCells, Go.Value.cells, cfg9, hv, hwr]
      refine ⟨by (unfold SX.Ob; first | trivial | omega | ((try simp only [SX.inK]); (try simp [SX.den, SX.IsU8, *]); (try omega))), ?_⟩
      intro a3 w3 hr3 _
      exact post_rnd (m - (k + 1)) (by omega) ⟨k + 1, rfl, hlt, hr3.re (by simp [envTo, SX.look, den, bigX]) hr3.all rfl rfl⟩
    · obtain rfl : k = m := by omega
      refine seg cfg9_ok mixed PanicFree.body 1000 [false] [] hr2 (by first | trivial | exact HpRep.nil | assumption) (by kernel_rfl) fun s_ hs_ => ?_
      simp (maxSteps := 10000000) [SX.vc, SX.stop, SX.contS, SX.contB, SX.contW, SX.contR, SX.contD, SX.sxStep, SX.stepPure, SX.stepNew, SX.stepStore, SX.stepKeep, SX.guardIx, SX.evOp, SX.opd, SX.opds, SX.optOpd, SX.look, SX.putS, SX.gobs, SX.AllP, SX.leave, SX.lookC, SX.lookB, SX.lookT, SX.lookN, SX.findK, SX.evBuiltin, SX.ints, SX.foldI, SX.evBin, SX.evInt, SX.evStr, SX.evEq, SX.arith, SX.evLoad, SX.shapeUp, SX.evFieldAddr, SX.evField, SX.evIndexAddr, SX.evIndex, SX.evFill, SX.evBuild, SX.szs, SX.cellsV, SX.evNew, SX.evStore, SX.spliceL, SX.SV.cells, SX.evConv, SX.evSlice, SX.bnd, SX.evNil, SX.evUn, SX.evPick, SX.pickOpd, SX.popTo, SX.cnd, SX.env0, SX.TD.isAgg, SX.TD.isIface, SX.tails, SX.NotAgg, SX.evLookup, SX.evConvH, SX.evPtrEq, SX.isCells, Go.Value.cells, cfg9]
      refine ⟨by (unfold SX.Ob; first | trivial | omega | ((try simp only [SX.inK]); (try simp [SX.den, SX.IsU8, *]); (try omega))), ?_⟩
      intro a3 w3 hr3 _
      exact post_retn (end1 hr3 rfl rfl ⟨by simp [den, bigX], hr3.keeps.toBelow⟩).1
end Go.Proofs
