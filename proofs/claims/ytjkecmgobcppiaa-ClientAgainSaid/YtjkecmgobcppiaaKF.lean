/- The client: whether numbers are the same. -/
import Derived.Test.YtjkecmgobcppiaaKE
namespace Go.Proofs
set_option linter.unusedVariables false
set_option linter.unusedSimpArgs false
open Go Go.SX Go.RowKit

def SameLoop (w : World) (n b1 o1 N1 c1 b2 o2 N2 c2 : Nat) (u1 u2 : TypeId) (z1 z2 : Nat × Nat) (g h : Nat → Int) (m : Nat) (a : Act) (w' : World) : Prop :=
  ∃ k : Nat, m = n - k ∧ k ≤ n ∧ (∀ j, j < k → g j = h j) ∧ RepX (frame0 w) ⟨[(13, 0, .v (.int .i64 k)), (12, 0, .v (.int .i64 n)), (0, 0, .sl 0 b1 o1 0 n c1 1), (1, 0, .sl 1 b2 o2 0 n c2 1)],
    [(b1, false, .arr o1 N1 (fun j => [.v (.int .i64 (g j))]) 1 u1 z1), (b2, false, .arr o2 N2 (fun j => [.v (.int .i64 (h j))]) 1 u2 z2)], 0, 0, 26, [], [], []⟩ a w'

def SamePost (w : World) (n m : Nat) (g h : Nat → Int) (e : Ending) (w' : World) : Prop := ∃ t : Bool, e = .returned (.bool t) ∧ (t = true ↔ n = m ∧ ∀ j, j < n → g j = h j) ∧ Below w.heap.size w w'

set_option maxRecDepth 100000 in
set_option maxHeartbeats 8000000 in
theorem same_some (w : World) (n b1 o1 N1 c1 b2 o2 N2 c2 : Nat) (u1 u2 : TypeId) (z1 z2 : Nat × Nat) (g h : Nat → Int) (hne : b1 ≠ b2) (hn1 : n ≤ N1) (hn2 : n ≤ N2) (hn : n ≤ 9223372036854775807)
    (r1 : (SO.arr o1 N1 (fun j => [.v (.int .i64 (g j))]) 1 u1 z1).rep w b1) (r2 : (SO.arr o2 N2 (fun j => [.v (.int .i64 (h j))]) 1 u2 z2).rep w b2) :
    Calls Try.prog 18 (denL [.sl 0 b1 o1 0 n c1 1, .sl 1 b2 o2 0 n c2 1]).toArray w (SamePost w n n g h) := by
  have hE : HpAll (frame0 w) w [(b1, false, .arr o1 N1 (fun j => [.v (.int .i64 (g j))]) 1 u1 z1), (b2, false, .arr o2 N2 (fun j => [.v (.int .i64 (h j))]) 1 u2 z2)] := ⟨⟨r1, by simp, by simpa using hne⟩, ⟨r2, by simp, by simp⟩, trivial⟩
  refine enter (F := frame0 w) Try.func18 rfl [.sl 0 b1 o1 0 n c1 1, .sl 1 b2 o2 0 n c2 1] _ (by simp [Try.f18]) hE (keeps0 w) fun a hr => ?_
  refine seg cfg18_ok mixed PanicFree.body 1000 [false] [] hr (by first | trivial | exact HpRep.nil | assumption) (by kernel_rfl) fun s_ hs_ => ?_
  simp (maxSteps := 10000000) [SX.vc, SX.stop, SX.contS, SX.contB, SX.contW, SX.contR, SX.contD, SX.sxStep, SX.stepPure, SX.stepNew, SX.stepStore, SX.stepKeep, SX.guardIx, SX.evOp, SX.opd, SX.opds, SX.optOpd, SX.look, SX.putS, SX.gobs, SX.AllP, SX.leave, SX.lookC, SX.lookB, SX.lookT, SX.lookN, SX.findK, SX.evBuiltin, SX.ints, SX.foldI, SX.evBin, SX.evInt, SX.evStr, SX.evEq, SX.arith, SX.evLoad, SX.shapeUp, SX.evFieldAddr, SX.evField, SX.evIndexAddr, SX.evIndex, SX.evFill, SX.evBuild, SX.szs, SX.cellsV, SX.evNew, SX.evStore, SX.spliceL, SX.SV.cells, SX.evConv, SX.evSlice, SX.bnd, SX.evNil, SX.evUn, SX.evPick, SX.pickOpd, SX.popTo, SX.cnd, SX.env0, SX.TD.isAgg, SX.TD.isIface, SX.tails, SX.NotAgg, SX.evLookup, SX.evConvH, SX.evPtrEq, SX.isCells, SX.thaw, SX.frz, SX.fixB, SX.rootIx, SX.Froz, SX.frzStep, SX.fork, Go.Value.cells, Go.undef, cfg18, Try.f18]
  refine ⟨by (unfold SX.Ob; first | trivial | omega | ((try simp only [SX.inK]); (try simp [SX.den, SX.IsU8, *]); (try omega))), ?_⟩
  intro a1 w1 hr1 _
  refine post_loop (SameLoop w n b1 o1 N1 c1 b2 o2 N2 c2 u1 u2 z1 z2 g h) n ⟨0, rfl, by omega, by omega, hr1.re (by simp [envTo, SX.look]) hr1.all rfl rfl⟩ ?_
  rintro m a2 w2 ⟨k, rfl, hk, hs, hr2⟩
  by_cases hlt : k < n
  · by_cases hg : g k = h k
    · refine seg cfg18_ok mixed PanicFree.body 1000 [true, false] [] hr2 (by first | trivial | exact HpRep.nil | assumption) (by kernel_rfl) fun s_ hs_ => ?_
      simp (maxSteps := 10000000) [SX.vc, SX.stop, SX.contS, SX.contB, SX.contW, SX.contR, SX.contD, SX.sxStep, SX.stepPure, SX.stepNew, SX.stepStore, SX.stepKeep, SX.guardIx, SX.evOp, SX.opd, SX.opds, SX.optOpd, SX.look, SX.putS, SX.gobs, SX.AllP, SX.leave, SX.lookC, SX.lookB, SX.lookT, SX.lookN, SX.findK, SX.evBuiltin, SX.ints, SX.foldI, SX.evBin, SX.evInt, SX.evStr, SX.evEq, SX.arith, SX.evLoad, SX.shapeUp, SX.evFieldAddr, SX.evField, SX.evIndexAddr, SX.evIndex, SX.evFill, SX.evBuild, SX.szs, SX.cellsV, SX.evNew, SX.evStore, SX.spliceL, SX.SV.cells, SX.evConv, SX.evSlice, SX.bnd, SX.evNil, SX.evUn, SX.evPick, SX.pickOpd, SX.popTo, SX.cnd, SX.env0, SX.TD.isAgg, SX.TD.isIface, SX.tails, SX.NotAgg, SX.evLookup, SX.evConvH, SX.evPtrEq, SX.isCells, SX.thaw, SX.frz, SX.fixB, SX.rootIx, SX.Froz, SX.frzStep, SX.fork, Go.Value.cells, Go.undef, cfg18, hg]
      refine ⟨by (unfold SX.Ob; first | trivial | omega | ((try simp only [SX.inK]); (try simp [SX.den, SX.IsU8, *]); (try omega))), ?_⟩
      intro a3 w3 hr3 _
      exact post_rnd (n - (k + 1)) (by omega) ⟨k + 1, rfl, hlt, fun j hj => by
        by_cases hjk : j = k
        · subst hjk; exact hg
        · exact hs j (by omega), hr3.re (by simp [envTo, SX.look, den]) hr3.all rfl rfl⟩
    · refine seg cfg18_ok mixed PanicFree.body 1000 [true, true] [] hr2 (by first | trivial | exact HpRep.nil | assumption) (by kernel_rfl) fun s_ hs_ => ?_
      simp (maxSteps := 10000000) [SX.vc, SX.stop, SX.contS, SX.contB, SX.contW, SX.contR, SX.contD, SX.sxStep, SX.stepPure, SX.stepNew, SX.stepStore, SX.stepKeep, SX.guardIx, SX.evOp, SX.opd, SX.opds, SX.optOpd, SX.look, SX.putS, SX.gobs, SX.AllP, SX.leave, SX.lookC, SX.lookB, SX.lookT, SX.lookN, SX.findK, SX.evBuiltin, SX.ints, SX.foldI, SX.evBin, SX.evInt, SX.evStr, SX.evEq, SX.arith, SX.evLoad, SX.shapeUp, SX.evFieldAddr, SX.evField, SX.evIndexAddr, SX.evIndex, SX.evFill, SX.evBuild, SX.szs, SX.cellsV, SX.evNew, SX.evStore, SX.spliceL, SX.SV.cells, SX.evConv, SX.evSlice, SX.bnd, SX.evNil, SX.evUn, SX.evPick, SX.pickOpd, SX.popTo, SX.cnd, SX.env0, SX.TD.isAgg, SX.TD.isIface, SX.tails, SX.NotAgg, SX.evLookup, SX.evConvH, SX.evPtrEq, SX.isCells, SX.thaw, SX.frz, SX.fixB, SX.rootIx, SX.Froz, SX.frzStep, SX.fork, Go.Value.cells, Go.undef, cfg18, hg]
      refine ⟨by (unfold SX.Ob; first | trivial | omega | ((try simp only [SX.inK]); (try simp [SX.den, SX.IsU8, *]); (try omega))), ?_⟩
      intro a3 w3 hr3 _
      exact post_retn (end1 hr3 rfl rfl ⟨false, rfl, ⟨(fun h => by cases h), fun ⟨_, h⟩ => absurd (h k hlt) hg⟩, hr3.keeps.toBelow⟩).1
  · obtain rfl : k = n := by omega
    refine seg cfg18_ok mixed PanicFree.body 1000 [false] [] hr2 (by first | trivial | exact HpRep.nil | assumption) (by kernel_rfl) fun s_ hs_ => ?_
    simp (maxSteps := 10000000) [SX.vc, SX.stop, SX.contS, SX.contB, SX.contW, SX.contR, SX.contD, SX.sxStep, SX.stepPure, SX.stepNew, SX.stepStore, SX.stepKeep, SX.guardIx, SX.evOp, SX.opd, SX.opds, SX.optOpd, SX.look, SX.putS, SX.gobs, SX.AllP, SX.leave, SX.lookC, SX.lookB, SX.lookT, SX.lookN, SX.findK, SX.evBuiltin, SX.ints, SX.foldI, SX.evBin, SX.evInt, SX.evStr, SX.evEq, SX.arith, SX.evLoad, SX.shapeUp, SX.evFieldAddr, SX.evField, SX.evIndexAddr, SX.evIndex, SX.evFill, SX.evBuild, SX.szs, SX.cellsV, SX.evNew, SX.evStore, SX.spliceL, SX.SV.cells, SX.evConv, SX.evSlice, SX.bnd, SX.evNil, SX.evUn, SX.evPick, SX.pickOpd, SX.popTo, SX.cnd, SX.env0, SX.TD.isAgg, SX.TD.isIface, SX.tails, SX.NotAgg, SX.evLookup, SX.evConvH, SX.evPtrEq, SX.isCells, SX.thaw, SX.frz, SX.fixB, SX.rootIx, SX.Froz, SX.frzStep, SX.fork, Go.Value.cells, Go.undef, cfg18]
    refine ⟨by (unfold SX.Ob; first | trivial | omega | ((try simp only [SX.inK]); (try simp [SX.den, SX.IsU8, *]); (try omega))), ?_⟩
    intro a3 w3 hr3 _
    exact post_retn (end1 hr3 rfl rfl ⟨true, rfl, by simpa using fun j hj => hs j hj, hr3.keeps.toBelow⟩).1
end Go.Proofs
