/- Leases: Contains; MinFunc; Next; Of. -/
import Derived.Test.YtnabelpgmcenlaaLP
namespace Go.Proofs
set_option linter.unusedVariables false
set_option linter.unusedSimpArgs false
open Go Go.SX Go.RowKit

def IdxR (w : World) (K : List Int) (x : Int) (e : Ending) (w' : World) : Prop := ∃ r : Int, e = .returned (den (.v (.int .i64 r))) ∧ (0 ≤ r ↔ x ∈ K) ∧ Below w.heap.size w w'
def IdxLoop (w : World) (v : Value) (K : List Int) (x : Int) (m : Nat) (a : Act) (w' : World) : Prop :=
  ∃ k : Nat, m = K.length - k ∧ k ≤ K.length ∧ (∀ j, j < k → nth (0 : Int) K j ≠ x) ∧ RepX (frame0 w) ⟨[(8, 0, .v (.int .i64 k)), (7, 0, .v (.int .i64 K.length)), (0, 0, .v v), (1, 0, .v (.int .i64 x)), (4, 0, .v (.int .i64 0))], [], 0, 0, 19, [], [], []⟩ a w'

set_option maxRecDepth 100000 in
set_option maxHeartbeats 8000000 in
/-- slices.Index. -/
theorem index_ok {P : Nat → Prop} (w : World) (v : Value) (K : List Int) (x : Int) (hL : RdI P w v K) (hn : K.length ≤ 1000000000000000) : Calls Try.prog 51 (denL [.v v, .v (.int .i64 x)]).toArray w (IdxR w K x) := by
  obtain ⟨ad, cp, rfl⟩ := hL.slice
  refine enter (F := frame0 w) Try.func51 rfl [.v (.slice ad K.length cp), .v (.int .i64 x)] [] (by simp [Try.f51]) trivial (keeps0 w) fun a hr => ?_
  refine seg cfg51_ok mixed PanicFree.body 1000 [] [] hr (by first | trivial | exact HpRep.nil | assumption) (by kernel_rfl) fun s_ hs_ => ?_
  simp (maxSteps := 10000000) [SX.vc, SX.stop, SX.contS, SX.contB, SX.contW, SX.contR, SX.contD, SX.sxStep, SX.stepPure, SX.stepNew, SX.stepStore, SX.stepKeep, SX.guardIx, SX.evOp, SX.opd, SX.opds, SX.optOpd, SX.look, SX.putS, SX.gobs, SX.AllP, SX.leave, SX.lookC, SX.lookB, SX.lookT, SX.lookN, SX.findK, SX.evBuiltin, SX.ints, SX.foldI, SX.evBin, SX.evInt, SX.evStr, SX.evEq, SX.arith, SX.evLoad, SX.shapeUp, SX.evFieldAddr, SX.evField, SX.evIndexAddr, SX.evIndex, SX.evFill, SX.evBuild, SX.szs, SX.cellsV, SX.evNew, SX.evStore, SX.spliceL, SX.SV.cells, SX.evConv, SX.evSlice, SX.bnd, SX.evNil, SX.evUn, SX.evPick, SX.pickOpd, SX.popTo, SX.cnd, SX.env0, SX.TD.isAgg, SX.TD.isIface, SX.tails, SX.NotAgg, SX.evLookup, SX.evConvH, SX.evPtrEq, SX.isCells, SX.thaw, SX.frz, SX.fixB, SX.rootIx, SX.Froz, SX.frzStep, SX.fork, Go.Value.cells, Go.undef, cfg51, Try.f51]
  refine ⟨by (unfold SX.Ob; first | trivial | omega | ((try simp only [SX.inK]); (try simp [SX.den, SX.IsU8, SX.AllP, *]); (try omega))), ?_⟩
  intro a1 w1 hr1 _
  refine post_loop (IdxLoop w (.slice ad K.length cp) K x) K.length ⟨0, rfl, by omega, by omega, hr1.re (by simp [envTo, SX.look]) trivial rfl rfl⟩ ?_
  rintro m a2 w2 ⟨k, rfl, hk, hno, hr2⟩
  by_cases hlt : k < K.length
  · obtain ⟨b, o0, cap, u, fz, hP, hv, hrep⟩ := hL.opn hlt
    cases hv
    have hrep2 := SO.rep_same hrep (hr2.keeps.toBelow.block _ (SO.rep_lt hrep))
    obtain ⟨y, hy⟩ : ∃ y, nth (0 : Int) K k = y := ⟨_, rfl⟩
    have h2 := (hr2.top 0 (.sl 0 b o0 0 K.length cp 1) rfl (by simp [den])).see _ (HpAll.one hrep2)
    by_cases hxy : x = y
    · refine seg cfg51_ok mixed PanicFree.body 1000 [true, true] [] h2 (by first | trivial | exact HpRep.nil | assumption) (by kernel_rfl) fun s_ hs_ => ?_
      simp (maxSteps := 10000000) [SX.vc, SX.stop, SX.contS, SX.contB, SX.contW, SX.contR, SX.contD, SX.sxStep, SX.stepPure, SX.stepNew, SX.stepStore, SX.stepKeep, SX.guardIx, SX.evOp, SX.opd, SX.opds, SX.optOpd, SX.look, SX.putS, SX.gobs, SX.AllP, SX.leave, SX.lookC, SX.lookB, SX.lookT, SX.lookN, SX.findK, SX.evBuiltin, SX.ints, SX.foldI, SX.evBin, SX.evInt, SX.evStr, SX.evEq, SX.arith, SX.evLoad, SX.shapeUp, SX.evFieldAddr, SX.evField, SX.evIndexAddr, SX.evIndex, SX.evFill, SX.evBuild, SX.szs, SX.cellsV, SX.evNew, SX.evStore, SX.spliceL, SX.SV.cells, SX.evConv, SX.evSlice, SX.bnd, SX.evNil, SX.evUn, SX.evPick, SX.pickOpd, SX.popTo, SX.cnd, SX.env0, SX.TD.isAgg, SX.TD.isIface, SX.tails, SX.NotAgg, SX.evLookup, SX.evConvH, SX.evPtrEq, SX.isCells, SX.thaw, SX.frz, SX.fixB, SX.rootIx, SX.Froz, SX.frzStep, SX.fork, Go.Value.cells, Go.undef, cfg51, intC, hy, hxy]
      refine ⟨by (unfold SX.Ob; first | trivial | omega | ((try simp only [SX.inK]); (try simp [SX.den, SX.IsU8, SX.AllP, *]); (try omega))), ?_⟩
      intro a3 w3 hr3 _
      exact post_retn (end1 hr3 rfl rfl ⟨k, rfl, ⟨fun _ => by
        have := nth_mem (d := (0 : Int)) hlt
        rw [hy] at this
        first | exact this | (rw [hxy]; exact this), fun _ => by omega⟩, hr3.keeps.toBelow⟩).1
    · refine seg cfg51_ok mixed PanicFree.body 1000 [true, false] [] h2 (by first | trivial | exact HpRep.nil | assumption) (by kernel_rfl) fun s_ hs_ => ?_
      simp (maxSteps := 10000000) [SX.vc, SX.stop, SX.contS, SX.contB, SX.contW, SX.contR, SX.contD, SX.sxStep, SX.stepPure, SX.stepNew, SX.stepStore, SX.stepKeep, SX.guardIx, SX.evOp, SX.opd, SX.opds, SX.optOpd, SX.look, SX.putS, SX.gobs, SX.AllP, SX.leave, SX.lookC, SX.lookB, SX.lookT, SX.lookN, SX.findK, SX.evBuiltin, SX.ints, SX.foldI, SX.evBin, SX.evInt, SX.evStr, SX.evEq, SX.arith, SX.evLoad, SX.shapeUp, SX.evFieldAddr, SX.evField, SX.evIndexAddr, SX.evIndex, SX.evFill, SX.evBuild, SX.szs, SX.cellsV, SX.evNew, SX.evStore, SX.spliceL, SX.SV.cells, SX.evConv, SX.evSlice, SX.bnd, SX.evNil, SX.evUn, SX.evPick, SX.pickOpd, SX.popTo, SX.cnd, SX.env0, SX.TD.isAgg, SX.TD.isIface, SX.tails, SX.NotAgg, SX.evLookup, SX.evConvH, SX.evPtrEq, SX.isCells, SX.thaw, SX.frz, SX.fixB, SX.rootIx, SX.Froz, SX.frzStep, SX.fork, Go.Value.cells, Go.undef, cfg51, intC, hy, hxy]
      refine ⟨by (unfold SX.Ob; first | trivial | omega | ((try simp only [SX.inK]); (try simp [SX.den, SX.IsU8, SX.AllP, *]); (try omega))), ?_⟩
      intro a3 w3 hr3 _
      exact post_rnd (K.length - (k + 1)) (by omega) ⟨k + 1, rfl, hlt, fun j hj => (by
        rcases Nat.lt_or_ge j k with h | h
        · exact hno j h
        · obtain rfl : j = k := by omega
          rw [hy]; exact fun h => hxy h.symm), hr3.re (by simp [envTo, SX.look, den]) trivial rfl rfl⟩
  · obtain rfl : k = K.length := by omega
    refine seg cfg51_ok mixed PanicFree.body 1000 [false] [] hr2 (by first | trivial | exact HpRep.nil | assumption) (by kernel_rfl) fun s_ hs_ => ?_
    simp (maxSteps := 10000000) [SX.vc, SX.stop, SX.contS, SX.contB, SX.contW, SX.contR, SX.contD, SX.sxStep, SX.stepPure, SX.stepNew, SX.stepStore, SX.stepKeep, SX.guardIx, SX.evOp, SX.opd, SX.opds, SX.optOpd, SX.look, SX.putS, SX.gobs, SX.AllP, SX.leave, SX.lookC, SX.lookB, SX.lookT, SX.lookN, SX.findK, SX.evBuiltin, SX.ints, SX.foldI, SX.evBin, SX.evInt, SX.evStr, SX.evEq, SX.arith, SX.evLoad, SX.shapeUp, SX.evFieldAddr, SX.evField, SX.evIndexAddr, SX.evIndex, SX.evFill, SX.evBuild, SX.szs, SX.cellsV, SX.evNew, SX.evStore, SX.spliceL, SX.SV.cells, SX.evConv, SX.evSlice, SX.bnd, SX.evNil, SX.evUn, SX.evPick, SX.pickOpd, SX.popTo, SX.cnd, SX.env0, SX.TD.isAgg, SX.TD.isIface, SX.tails, SX.NotAgg, SX.evLookup, SX.evConvH, SX.evPtrEq, SX.isCells, SX.thaw, SX.frz, SX.fixB, SX.rootIx, SX.Froz, SX.frzStep, SX.fork, Go.Value.cells, Go.undef, cfg51]
    refine ⟨by (unfold SX.Ob; first | trivial | omega | ((try simp only [SX.inK]); (try simp [SX.den, SX.IsU8, SX.AllP, *]); (try omega))), ?_⟩
    intro a3 w3 hr3 _
    exact post_retn (end1 hr3 rfl rfl ⟨-1, rfl, ⟨fun h => by omega, fun h => by
      obtain ⟨j, hj, rfl⟩ := List.mem_iff_getElem.1 h
      exact absurd (nth_lt hj) (hno j hj)⟩, hr3.keeps.toBelow⟩).1

set_option maxRecDepth 100000 in
set_option maxHeartbeats 8000000 in
/-- slices.Contains. -/
theorem contains_ok {P : Nat → Prop} (w : World) (v : Value) (K : List Int) (x : Int) (hL : RdI P w v K) (hn : K.length ≤ 1000000000000000) : Calls Try.prog 32 (denL [.v v, .v (.int .i64 x)]).toArray w (Ret w (.v (.bool (decide (x ∈ K))))) := by
  refine enter (F := frame0 w) Try.func32 rfl [.v v, .v (.int .i64 x)] [] (by simp [Try.f32]) trivial (keeps0 w) fun a hr => ?_
  refine seg cfg32_ok mixed PanicFree.body 1000 [] [] hr (by first | trivial | exact HpRep.nil | assumption) (by kernel_rfl) fun s_ hs_ => ?_
  simp (maxSteps := 10000000) [SX.vc, SX.stop, SX.contS, SX.contB, SX.contW, SX.contR, SX.contD, SX.sxStep, SX.stepPure, SX.stepNew, SX.stepStore, SX.stepKeep, SX.guardIx, SX.evOp, SX.opd, SX.opds, SX.optOpd, SX.look, SX.putS, SX.gobs, SX.AllP, SX.leave, SX.lookC, SX.lookB, SX.lookT, SX.lookN, SX.findK, SX.evBuiltin, SX.ints, SX.foldI, SX.evBin, SX.evInt, SX.evStr, SX.evEq, SX.arith, SX.evLoad, SX.shapeUp, SX.evFieldAddr, SX.evField, SX.evIndexAddr, SX.evIndex, SX.evFill, SX.evBuild, SX.szs, SX.cellsV, SX.evNew, SX.evStore, SX.spliceL, SX.SV.cells, SX.evConv, SX.evSlice, SX.bnd, SX.evNil, SX.evUn, SX.evPick, SX.pickOpd, SX.popTo, SX.cnd, SX.env0, SX.TD.isAgg, SX.TD.isIface, SX.tails, SX.NotAgg, SX.evLookup, SX.evConvH, SX.evPtrEq, SX.isCells, SX.thaw, SX.frz, SX.fixB, SX.rootIx, SX.Froz, SX.frzStep, SX.fork, Go.Value.cells, Go.undef, cfg32, Try.f32]
  refine ⟨by (unfold SX.Ob; first | trivial | omega | ((try simp only [SX.inK]); (try simp [SX.den, SX.IsU8, SX.AllP, *]); (try omega))), ?_⟩
  intro a1 w1 hr1 _
  refine post_call 51 [.v v, .v (.int .i64 x)] hr1 (by first | exact wanted_none rfl | exact wanted_zero (hr1.env.same rfl rfl rfl rfl) rfl (by simp) | exact wanted_zero (hr1.env.same rfl rfl rfl rfl) rfl (by simp [*])) rfl (callable 51 Try.func51) (index_ok w1 v K x (hL.below hr1.keeps.toBelow) hn) ?_
  rintro e2 w2 ⟨r, rfl, hri, hb2⟩
  refine ⟨_, rfl, ?_⟩
  have h2 := hr1.ret hb2 7 (.v (.int .i64 r)) rfl _ (hr1.all.below hb2) (by simp) rfl
  refine seg cfg32_ok mixed PanicFree.body 1000 [] [] h2 (by first | trivial | exact HpRep.nil | assumption) (by kernel_rfl) fun s_ hs_ => ?_
  simp (maxSteps := 10000000) [SX.vc, SX.stop, SX.contS, SX.contB, SX.contW, SX.contR, SX.contD, SX.sxStep, SX.stepPure, SX.stepNew, SX.stepStore, SX.stepKeep, SX.guardIx, SX.evOp, SX.opd, SX.opds, SX.optOpd, SX.look, SX.putS, SX.gobs, SX.AllP, SX.leave, SX.lookC, SX.lookB, SX.lookT, SX.lookN, SX.findK, SX.evBuiltin, SX.ints, SX.foldI, SX.evBin, SX.evInt, SX.evStr, SX.evEq, SX.arith, SX.evLoad, SX.shapeUp, SX.evFieldAddr, SX.evField, SX.evIndexAddr, SX.evIndex, SX.evFill, SX.evBuild, SX.szs, SX.cellsV, SX.evNew, SX.evStore, SX.spliceL, SX.SV.cells, SX.evConv, SX.evSlice, SX.bnd, SX.evNil, SX.evUn, SX.evPick, SX.pickOpd, SX.popTo, SX.cnd, SX.env0, SX.TD.isAgg, SX.TD.isIface, SX.tails, SX.NotAgg, SX.evLookup, SX.evConvH, SX.evPtrEq, SX.isCells, SX.thaw, SX.frz, SX.fixB, SX.rootIx, SX.Froz, SX.frzStep, SX.fork, Go.Value.cells, Go.undef, cfg32]
  refine ⟨by (unfold SX.Ob; first | trivial | omega | ((try simp only [SX.inK]); (try simp [SX.den, SX.IsU8, SX.AllP, *]); (try omega))), ?_⟩
  intro a3 w3 hr3 _
  exact post_retn (end1 hr3 rfl rfl ⟨ret_dec (by simpa using hri), hr3.keeps.toBelow⟩).1

def nextP (K : List Int) (x : Lse) : Bool := decide (K = [] ∨ x.k ∈ K)
set_option maxRecDepth 100000 in
set_option maxHeartbeats 8000000 in
/-- Next's closures. -/
theorem next1_ok {P : Nat → Prop} (w : World) (x : Lse) (c : Nat) (v : Value) (K : List Int) (hK : RdI P w v K) (hn : K.length ≤ 1000000000000000) (hc : (SO.cells [.v v] 34).rep w c) : Calls Try.prog 31 (denL [.ag (lseC x), .ptr 0 c 0]).toArray w (Ret w (.v (.bool (nextP K x)))) := by
  obtain ⟨ad, cp, rfl⟩ := hK.slice
  refine enter (F := frame0 w) Try.func31 rfl [.ag (lseC x), .ptr 0 c 0] [(c, false, .cells [.v (.slice ad K.length cp)] 34)] (by simp [Try.f31]) (HpAll.one hc) (keeps0 w) fun a hr => ?_
  by_cases h0 : (K.length : Int) = 0
  · have hp : nextP K x = true := by
      obtain rfl : K = [] := List.length_eq_zero_iff.1 (by omega)
      simp [nextP]
    refine seg cfg31_ok mixed PanicFree.body 1000 [] [(7, true)] hr (by first | trivial | exact HpRep.nil | assumption) (by kernel_rfl) fun s_ hs_ => ?_
    simp (maxSteps := 10000000) [SX.vc, SX.stop, SX.contS, SX.contB, SX.contW, SX.contR, SX.contD, SX.sxStep, SX.stepPure, SX.stepNew, SX.stepStore, SX.stepKeep, SX.guardIx, SX.evOp, SX.opd, SX.opds, SX.optOpd, SX.look, SX.putS, SX.gobs, SX.AllP, SX.leave, SX.lookC, SX.lookB, SX.lookT, SX.lookN, SX.findK, SX.evBuiltin, SX.ints, SX.foldI, SX.evBin, SX.evInt, SX.evStr, SX.evEq, SX.arith, SX.evLoad, SX.shapeUp, SX.evFieldAddr, SX.evField, SX.evIndexAddr, SX.evIndex, SX.evFill, SX.evBuild, SX.szs, SX.cellsV, SX.evNew, SX.evStore, SX.spliceL, SX.SV.cells, SX.evConv, SX.evSlice, SX.bnd, SX.evNil, SX.evUn, SX.evPick, SX.pickOpd, SX.popTo, SX.cnd, SX.env0, SX.TD.isAgg, SX.TD.isIface, SX.tails, SX.NotAgg, SX.evLookup, SX.evConvH, SX.evPtrEq, SX.isCells, SX.thaw, SX.frz, SX.fixB, SX.rootIx, SX.Froz, SX.frzStep, SX.fork, Go.Value.cells, Go.undef, cfg31, Try.f31, lseC, h0]
    refine ⟨by (unfold SX.Ob; first | trivial | omega | ((try simp only [SX.inK]); (try simp [SX.den, SX.IsU8, SX.AllP, *]); (try omega))), ?_⟩
    intro a1 w1 hr1 _
    exact post_retn (end1 hr1 rfl rfl ⟨by rw [hp], hr1.keeps.toBelow⟩).1
  · have hne : K ≠ [] := fun h => h0 (by rw [h]; rfl)
    have hb0 : ((K.length : Int) == 0) = false := by simpa using hne
    have hp : nextP K x = decide (x.k ∈ K) := by
      simp [nextP, hne]
    refine seg cfg31_ok mixed PanicFree.body 1000 [] [(7, false)] hr (by first | trivial | exact HpRep.nil | assumption) (by kernel_rfl) fun s_ hs_ => ?_
    simp (maxSteps := 10000000) [SX.vc, SX.stop, SX.contS, SX.contB, SX.contW, SX.contR, SX.contD, SX.sxStep, SX.stepPure, SX.stepNew, SX.stepStore, SX.stepKeep, SX.guardIx, SX.evOp, SX.opd, SX.opds, SX.optOpd, SX.look, SX.putS, SX.gobs, SX.AllP, SX.leave, SX.lookC, SX.lookB, SX.lookT, SX.lookN, SX.findK, SX.evBuiltin, SX.ints, SX.foldI, SX.evBin, SX.evInt, SX.evStr, SX.evEq, SX.arith, SX.evLoad, SX.shapeUp, SX.evFieldAddr, SX.evField, SX.evIndexAddr, SX.evIndex, SX.evFill, SX.evBuild, SX.szs, SX.cellsV, SX.evNew, SX.evStore, SX.spliceL, SX.SV.cells, SX.evConv, SX.evSlice, SX.bnd, SX.evNil, SX.evUn, SX.evPick, SX.pickOpd, SX.popTo, SX.cnd, SX.env0, SX.TD.isAgg, SX.TD.isIface, SX.tails, SX.NotAgg, SX.evLookup, SX.evConvH, SX.evPtrEq, SX.isCells, SX.thaw, SX.frz, SX.fixB, SX.rootIx, SX.Froz, SX.frzStep, SX.fork, Go.Value.cells, Go.undef, cfg31, Try.f31, lseC, hb0]
    refine ⟨by (unfold SX.Ob; first | trivial | omega | ((try simp only [SX.inK]); (try simp [SX.den, SX.IsU8, SX.AllP, *]); (try omega))), ?_⟩
    intro a1 w1 hr1 _
    refine post_call 32 [.v (.slice ad K.length cp), .v (.int .i64 x.k)] hr1 (by first | exact wanted_none rfl | exact wanted_zero (hr1.env.same rfl rfl rfl rfl) rfl (by simp) | exact wanted_zero (hr1.env.same rfl rfl rfl rfl) rfl (by simp [*])) rfl (callable 32 Try.func32) (contains_ok w1 _ K x.k (hK.below hr1.keeps.toBelow) hn) ?_
    rintro e2 w2 ⟨rfl, hb2⟩
    refine ⟨_, rfl, ?_⟩
    have h2 := hr1.ret hb2 11 (.v (.bool (decide (x.k ∈ K)))) rfl _ (hr1.all.below hb2) (by simp) rfl
    refine seg cfg31_ok mixed PanicFree.body 1000 [] [(7, false)] h2 (by first | trivial | exact HpRep.nil | assumption) (by kernel_rfl) fun s_ hs_ => ?_
    simp (maxSteps := 10000000) [SX.vc, SX.stop, SX.contS, SX.contB, SX.contW, SX.contR, SX.contD, SX.sxStep, SX.stepPure, SX.stepNew, SX.stepStore, SX.stepKeep, SX.guardIx, SX.evOp, SX.opd, SX.opds, SX.optOpd, SX.look, SX.putS, SX.gobs, SX.AllP, SX.leave, SX.lookC, SX.lookB, SX.lookT, SX.lookN, SX.findK, SX.evBuiltin, SX.ints, SX.foldI, SX.evBin, SX.evInt, SX.evStr, SX.evEq, SX.arith, SX.evLoad, SX.shapeUp, SX.evFieldAddr, SX.evField, SX.evIndexAddr, SX.evIndex, SX.evFill, SX.evBuild, SX.szs, SX.cellsV, SX.evNew, SX.evStore, SX.spliceL, SX.SV.cells, SX.evConv, SX.evSlice, SX.bnd, SX.evNil, SX.evUn, SX.evPick, SX.pickOpd, SX.popTo, SX.cnd, SX.env0, SX.TD.isAgg, SX.TD.isIface, SX.tails, SX.NotAgg, SX.evLookup, SX.evConvH, SX.evPtrEq, SX.isCells, SX.thaw, SX.frz, SX.fixB, SX.rootIx, SX.Froz, SX.frzStep, SX.fork, Go.Value.cells, Go.undef, cfg31]
    refine ⟨by (unfold SX.Ob; first | trivial | omega | ((try simp only [SX.inK]); (try simp [SX.den, SX.IsU8, SX.AllP, *]); (try omega))), ?_⟩
    intro a3 w3 hr3 _
    exact post_retn (end1 hr3 rfl rfl ⟨by rw [hp], hr3.keeps.toBelow⟩).1
set_option maxRecDepth 100000 in
set_option maxHeartbeats 8000000 in
theorem next2_ok (w : World) (x y : Lse) : Calls Try.prog 34 (denL [.ag (lseC x), .ag (lseC y)]).toArray w (Ret w (.v (.int .i64 (cmpI x.u y.u)))) := by
  refine enter (F := frame0 w) Try.func34 rfl [.ag (lseC x), .ag (lseC y)] [] (by simp [Try.f34]) trivial (keeps0 w) fun a hr => ?_
  refine seg cfg34_ok mixed PanicFree.body 1000 [] [] hr (by first | trivial | exact HpRep.nil | assumption) (by kernel_rfl) fun s_ hs_ => ?_
  simp (maxSteps := 10000000) [SX.vc, SX.stop, SX.contS, SX.contB, SX.contW, SX.contR, SX.contD, SX.sxStep, SX.stepPure, SX.stepNew, SX.stepStore, SX.stepKeep, SX.guardIx, SX.evOp, SX.opd, SX.opds, SX.optOpd, SX.look, SX.putS, SX.gobs, SX.AllP, SX.leave, SX.lookC, SX.lookB, SX.lookT, SX.lookN, SX.findK, SX.evBuiltin, SX.ints, SX.foldI, SX.evBin, SX.evInt, SX.evStr, SX.evEq, SX.arith, SX.evLoad, SX.shapeUp, SX.evFieldAddr, SX.evField, SX.evIndexAddr, SX.evIndex, SX.evFill, SX.evBuild, SX.szs, SX.cellsV, SX.evNew, SX.evStore, SX.spliceL, SX.SV.cells, SX.evConv, SX.evSlice, SX.bnd, SX.evNil, SX.evUn, SX.evPick, SX.pickOpd, SX.popTo, SX.cnd, SX.env0, SX.TD.isAgg, SX.TD.isIface, SX.tails, SX.NotAgg, SX.evLookup, SX.evConvH, SX.evPtrEq, SX.isCells, SX.thaw, SX.frz, SX.fixB, SX.rootIx, SX.Froz, SX.frzStep, SX.fork, Go.Value.cells, Go.undef, cfg34, Try.f34, lseC]
  refine ⟨by (unfold SX.Ob; first | trivial | omega | ((try simp only [SX.inK]); (try simp [SX.den, SX.IsU8, SX.AllP, *]); (try omega))), ?_⟩
  intro a1 w1 hr1 _
  refine post_call 35 [.v (.int .i64 x.u), .v (.int .i64 y.u)] hr1 (by first | exact wanted_none rfl | exact wanted_zero (hr1.env.same rfl rfl rfl rfl) rfl (by simp) | exact wanted_zero (hr1.env.same rfl rfl rfl rfl) rfl (by simp [*])) rfl (callable 35 Try.func35) (cmp_ok w1 x.u y.u) ?_
  rintro e2 w2 ⟨rfl, hb2⟩
  refine ⟨_, rfl, ?_⟩
  have h2 := hr1.ret hb2 9 (.v (.int .i64 (cmpI x.u y.u))) rfl _ (hr1.all.below hb2) (by simp) rfl
  refine seg cfg34_ok mixed PanicFree.body 1000 [] [] h2 (by first | trivial | exact HpRep.nil | assumption) (by kernel_rfl) fun s_ hs_ => ?_
  simp (maxSteps := 10000000) [SX.vc, SX.stop, SX.contS, SX.contB, SX.contW, SX.contR, SX.contD, SX.sxStep, SX.stepPure, SX.stepNew, SX.stepStore, SX.stepKeep, SX.guardIx, SX.evOp, SX.opd, SX.opds, SX.optOpd, SX.look, SX.putS, SX.gobs, SX.AllP, SX.leave, SX.lookC, SX.lookB, SX.lookT, SX.lookN, SX.findK, SX.evBuiltin, SX.ints, SX.foldI, SX.evBin, SX.evInt, SX.evStr, SX.evEq, SX.arith, SX.evLoad, SX.shapeUp, SX.evFieldAddr, SX.evField, SX.evIndexAddr, SX.evIndex, SX.evFill, SX.evBuild, SX.szs, SX.cellsV, SX.evNew, SX.evStore, SX.spliceL, SX.SV.cells, SX.evConv, SX.evSlice, SX.bnd, SX.evNil, SX.evUn, SX.evPick, SX.pickOpd, SX.popTo, SX.cnd, SX.env0, SX.TD.isAgg, SX.TD.isIface, SX.tails, SX.NotAgg, SX.evLookup, SX.evConvH, SX.evPtrEq, SX.isCells, SX.thaw, SX.frz, SX.fixB, SX.rootIx, SX.Froz, SX.frzStep, SX.fork, Go.Value.cells, Go.undef, cfg34]
  refine ⟨by (unfold SX.Ob; first | trivial | omega | ((try simp only [SX.inK]); (try simp [SX.den, SX.IsU8, SX.AllP, *]); (try omega))), ?_⟩
  intro a3 w3 hr3 _
  exact post_retn (end1 hr3 rfl rfl ⟨rfl, hr3.keeps.toBelow⟩).1

def MinLoop (w : World) (v : Value) (L : List Lse) (sA sB : Nat) (m : Nat) (a : Act) (w' : World) : Prop :=
  ∃ (k j : Nat), m = L.length - k ∧ 1 ≤ k ∧ k ≤ L.length ∧ j < L.length ∧ (∀ i, i < k → (nth lse0 L j).u ≤ (nth lse0 L i).u) ∧
    RepX (frame0 w) ⟨[(6, 0, .v (.int .i64 k)), (4, 0, .ptr 0 sA 0), (5, 0, .ptr 1 sB 0), (0, 0, .v v), (1, 0, .fn (.func 34) [] [])], [(sA, true, .cells [.v (.int .i64 0), .v (.int .i64 0), .v (.int .i64 0), .v (.int .i64 0)] 33), (sB, true, .cells (lseC (nth lse0 L j)) 33)], 0, 0, 33, [], [], []⟩ a w'
def MinR (w : World) (L : List Lse) (e : Ending) (w' : World) : Prop := ∃ x, e = .returned (den (.ag (lseC x))) ∧ x ∈ L ∧ (∀ y ∈ L, x.u ≤ y.u) ∧ Below w.heap.size w w'

set_option maxRecDepth 100000 in
set_option maxHeartbeats 8000000 in
/-- slices.MinFunc. -/
theorem min_ok {P : Nat → Prop} (w : World) (v : Value) (L : List Lse) (hL : RdL P w v L) (hn : L.length ≤ 1000000000000000) (h0 : 0 < L.length) : Calls Try.prog 33 (denL [.v v, .fn (.func 34) [] []]).toArray w (MinR w L) := by
  obtain ⟨b, o0, cap, u, fz, hP, hv, hrep⟩ := hL.opn h0
  cases hv
  obtain ⟨x, hx⟩ : ∃ x, nth lse0 L 0 = x := ⟨_, rfl⟩
  refine enter (F := frame0 w) Try.func33 rfl [.sl 0 b o0 0 L.length cap 4, .fn (.func 34) [] []] [(b, false, .arr o0 L.length (fun j => lseC (nth lse0 L j)) 4 u fz)] (by simp [Try.f33]) (HpAll.one hrep) (keeps0 w) fun a hr => ?_
  refine seg cfg33_ok mixed PanicFree.body 1000 [false] [] hr (by first | trivial | exact HpRep.nil | assumption) (by kernel_rfl) fun sA hsA => ?_
  simp (maxSteps := 10000000) [SX.vc, SX.stop, SX.contS, SX.contB, SX.contW, SX.contR, SX.contD, SX.sxStep, SX.stepPure, SX.stepNew, SX.stepStore, SX.stepKeep, SX.guardIx, SX.evOp, SX.opd, SX.opds, SX.optOpd, SX.look, SX.putS, SX.gobs, SX.AllP, SX.leave, SX.lookC, SX.lookB, SX.lookT, SX.lookN, SX.findK, SX.evBuiltin, SX.ints, SX.foldI, SX.evBin, SX.evInt, SX.evStr, SX.evEq, SX.arith, SX.evLoad, SX.shapeUp, SX.evFieldAddr, SX.evField, SX.evIndexAddr, SX.evIndex, SX.evFill, SX.evBuild, SX.szs, SX.cellsV, SX.evNew, SX.evStore, SX.spliceL, SX.SV.cells, SX.evConv, SX.evSlice, SX.bnd, SX.evNil, SX.evUn, SX.evPick, SX.pickOpd, SX.popTo, SX.cnd, SX.env0, SX.TD.isAgg, SX.TD.isIface, SX.tails, SX.NotAgg, SX.evLookup, SX.evConvH, SX.evPtrEq, SX.isCells, SX.thaw, SX.frz, SX.fixB, SX.rootIx, SX.Froz, SX.frzStep, SX.fork, Go.Value.cells, Go.undef, cfg33, Try.f33, lseC, hx]
  refine ⟨by (unfold SX.Ob; first | trivial | omega | ((try simp only [SX.inK]); (try simp [SX.den, SX.IsU8, SX.AllP, *]); (try omega))), ?_⟩
  intro a1 w1 hr1 _
  have hA1 := hr1.all
  have hbs : b < w.heap.size := SO.rep_lt hrep
  have hsA : w.heap.size ≤ sA := by
    rcases hA1.2.1.2.1 rfl with h | h
    · exact h
    · cases h
  have h1 := (hr1.top 4 (.ptr 0 sA 0) rfl (by simp [den])).top 5 (.ptr 1 (sA + 1) 0) rfl (by simp [den])
  have h2 := h1.see [(sA, true, .cells [.v (.int .i64 0), .v (.int .i64 0), .v (.int .i64 0), .v (.int .i64 0)] 33), (sA + 1, true, .cells (lseC (nth lse0 L 0)) 33)] ⟨⟨hA1.2.1.1, hA1.2.1.2.1, by simp⟩, ⟨by rw [hx]; exact hA1.2.2.1.1, hA1.2.2.1.2.1, by simp⟩, trivial⟩
  refine post_loop (MinLoop w (.slice (some ⟨b, o0, none⟩) L.length cap) L sA (sA + 1)) (L.length - 1) ⟨1, 0, rfl, by omega, by omega, h0, fun i hi => (by
    obtain rfl : i = 0 := by omega
    exact Int.le_refl _), h2.re (by simp [envTo, SX.look, den]) h2.all rfl rfl⟩ ?_
  rintro m a3 w3 ⟨k, j, rfl, hk1, hk, hj, hmin, hr3⟩
  have hA3 := hr3.all
  have hrep3 := SO.rep_same hrep (hr3.keeps.toBelow.block _ hbs)
  obtain ⟨y, hy⟩ : ∃ y, nth lse0 L k = y := ⟨_, rfl⟩
  obtain ⟨z, hz⟩ : ∃ z, nth lse0 L j = z := ⟨_, rfl⟩
  by_cases hlt : k < L.length
  · have h4 := (hr3.top 0 (.sl 2 b o0 0 L.length cap 4) rfl (by simp [den])).see [(sA, true, .cells [.v (.int .i64 0), .v (.int .i64 0), .v (.int .i64 0), .v (.int .i64 0)] 33), (sA + 1, true, .cells (lseC (nth lse0 L j)) 33), (b, false, .arr o0 L.length (fun j => lseC (nth lse0 L j)) 4 u fz)] ⟨⟨hA3.1.1, hA3.1.2.1, by simp; omega⟩, ⟨hA3.2.1.1, hA3.2.1.2.1, by simp; omega⟩, HpAll.one hrep3⟩
    refine seg cfg33_ok mixed PanicFree.body 1000 [true] [] h4 (by first | trivial | exact HpRep.nil | assumption) (by kernel_rfl) fun s_ hs_ => ?_
    simp (maxSteps := 10000000) [SX.vc, SX.stop, SX.contS, SX.contB, SX.contW, SX.contR, SX.contD, SX.sxStep, SX.stepPure, SX.stepNew, SX.stepStore, SX.stepKeep, SX.guardIx, SX.evOp, SX.opd, SX.opds, SX.optOpd, SX.look, SX.putS, SX.gobs, SX.AllP, SX.leave, SX.lookC, SX.lookB, SX.lookT, SX.lookN, SX.findK, SX.evBuiltin, SX.ints, SX.foldI, SX.evBin, SX.evInt, SX.evStr, SX.evEq, SX.arith, SX.evLoad, SX.shapeUp, SX.evFieldAddr, SX.evField, SX.evIndexAddr, SX.evIndex, SX.evFill, SX.evBuild, SX.szs, SX.cellsV, SX.evNew, SX.evStore, SX.spliceL, SX.SV.cells, SX.evConv, SX.evSlice, SX.bnd, SX.evNil, SX.evUn, SX.evPick, SX.pickOpd, SX.popTo, SX.cnd, SX.env0, SX.TD.isAgg, SX.TD.isIface, SX.tails, SX.NotAgg, SX.evLookup, SX.evConvH, SX.evPtrEq, SX.isCells, SX.thaw, SX.frz, SX.fixB, SX.rootIx, SX.Froz, SX.frzStep, SX.fork, Go.Value.cells, Go.undef, cfg33, lseC, hy, hz]
    refine ⟨by (unfold SX.Ob; first | trivial | omega | ((try simp only [SX.inK]); (try simp [SX.den, SX.IsU8, SX.AllP, *]); (try omega))), ?_⟩
    intro a5 w5 hr5 ht5
    refine post_callD 34 [.ag (lseC y), .ag (lseC z)] hr5 rfl (by first | exact wanted_none rfl | exact wanted_zero (hr5.env.same rfl rfl rfl rfl) rfl (by simp) | exact wanted_zero (hr5.env.same rfl rfl rfl rfl) rfl (by simp [*])) rfl (callable 34 Try.func34) (next2_ok w5 y z) ?_
    rintro e6 w6 ⟨rfl, hb6⟩
    have ht6 := HpRep_below ht5 hb6
    refine ⟨_, rfl, ht6, ?_⟩
    have hr6 := hr5.ret hb6 26 (.v (.int .i64 (cmpI y.u z.u))) rfl _ (hr5.all.below hb6) (by simp) rfl
    by_cases hc : cmpI y.u z.u < 0
    · have hc' := cmpI_lt.1 hc
      refine seg cfg33_ok mixed PanicFree.body 1000 [true] [] hr6 (by first | trivial | exact HpRep.nil | assumption) (by kernel_rfl) fun s_ hs_ => ?_
      simp (maxSteps := 10000000) [SX.vc, SX.stop, SX.contS, SX.contB, SX.contW, SX.contR, SX.contD, SX.sxStep, SX.stepPure, SX.stepNew, SX.stepStore, SX.stepKeep, SX.guardIx, SX.evOp, SX.opd, SX.opds, SX.optOpd, SX.look, SX.putS, SX.gobs, SX.AllP, SX.leave, SX.lookC, SX.lookB, SX.lookT, SX.lookN, SX.findK, SX.evBuiltin, SX.ints, SX.foldI, SX.evBin, SX.evInt, SX.evStr, SX.evEq, SX.arith, SX.evLoad, SX.shapeUp, SX.evFieldAddr, SX.evField, SX.evIndexAddr, SX.evIndex, SX.evFill, SX.evBuild, SX.szs, SX.cellsV, SX.evNew, SX.evStore, SX.spliceL, SX.SV.cells, SX.evConv, SX.evSlice, SX.bnd, SX.evNil, SX.evUn, SX.evPick, SX.pickOpd, SX.popTo, SX.cnd, SX.env0, SX.TD.isAgg, SX.TD.isIface, SX.tails, SX.NotAgg, SX.evLookup, SX.evConvH, SX.evPtrEq, SX.isCells, SX.thaw, SX.frz, SX.fixB, SX.rootIx, SX.Froz, SX.frzStep, SX.fork, Go.Value.cells, Go.undef, cfg33, hc, lseC, hy]
      refine ⟨by (unfold SX.Ob; first | trivial | omega | ((try simp only [SX.inK]); (try simp [SX.den, SX.IsU8, SX.AllP, *]); (try omega))), ?_⟩
      intro a7 w7 hr7 _
      have hA7 := hr7.all
      exact post_rnd (L.length - (k + 1)) (by omega) ⟨k + 1, k, rfl, by omega, by omega, hlt, fun i hi => (by
        rcases Nat.lt_or_ge i k with h | h
        · have := hmin i h
          rw [hz] at this
          rw [hy]
          omega
        · obtain rfl : i = k := by omega
          exact Int.le_refl _), hr7.re (by simp [envTo, SX.look, den]) ⟨⟨hA7.1.1, hA7.1.2.1, by simp⟩, ⟨by rw [hy]; exact hA7.2.1.1, hA7.2.1.2.1, by simp⟩, trivial⟩ rfl rfl⟩
    · have hc' : z.u ≤ y.u := by have := mt cmpI_lt.2 hc; omega
      refine seg cfg33_ok mixed PanicFree.body 1000 [false] [] hr6 (by first | trivial | exact HpRep.nil | assumption) (by kernel_rfl) fun s_ hs_ => ?_
      simp (maxSteps := 10000000) [SX.vc, SX.stop, SX.contS, SX.contB, SX.contW, SX.contR, SX.contD, SX.sxStep, SX.stepPure, SX.stepNew, SX.stepStore, SX.stepKeep, SX.guardIx, SX.evOp, SX.opd, SX.opds, SX.optOpd, SX.look, SX.putS, SX.gobs, SX.AllP, SX.leave, SX.lookC, SX.lookB, SX.lookT, SX.lookN, SX.findK, SX.evBuiltin, SX.ints, SX.foldI, SX.evBin, SX.evInt, SX.evStr, SX.evEq, SX.arith, SX.evLoad, SX.shapeUp, SX.evFieldAddr, SX.evField, SX.evIndexAddr, SX.evIndex, SX.evFill, SX.evBuild, SX.szs, SX.cellsV, SX.evNew, SX.evStore, SX.spliceL, SX.SV.cells, SX.evConv, SX.evSlice, SX.bnd, SX.evNil, SX.evUn, SX.evPick, SX.pickOpd, SX.popTo, SX.cnd, SX.env0, SX.TD.isAgg, SX.TD.isIface, SX.tails, SX.NotAgg, SX.evLookup, SX.evConvH, SX.evPtrEq, SX.isCells, SX.thaw, SX.frz, SX.fixB, SX.rootIx, SX.Froz, SX.frzStep, SX.fork, Go.Value.cells, Go.undef, cfg33, hc]
      refine ⟨by (unfold SX.Ob; first | trivial | omega | ((try simp only [SX.inK]); (try simp [SX.den, SX.IsU8, SX.AllP, *]); (try omega))), ?_⟩
      intro a7 w7 hr7 _
      have hA7 := hr7.all
      exact post_rnd (L.length - (k + 1)) (by omega) ⟨k + 1, j, rfl, by omega, by omega, hj, fun i hi => (by
        rcases Nat.lt_or_ge i k with h | h
        · exact hmin i h
        · obtain rfl : i = k := by omega
          rw [hy, hz]; exact hc'), hr7.re (by simp [envTo, SX.look, den]) ⟨⟨hA7.1.1, hA7.1.2.1, by simp⟩, ⟨by rw [hz]; exact hA7.2.1.1, hA7.2.1.2.1, by simp⟩, trivial⟩ rfl rfl⟩
  · obtain rfl : k = L.length := by omega
    refine seg cfg33_ok mixed PanicFree.body 1000 [false] [] hr3 (by first | trivial | exact HpRep.nil | assumption) (by kernel_rfl) fun s_ hs_ => ?_
    simp (maxSteps := 10000000) [SX.vc, SX.stop, SX.contS, SX.contB, SX.contW, SX.contR, SX.contD, SX.sxStep, SX.stepPure, SX.stepNew, SX.stepStore, SX.stepKeep, SX.guardIx, SX.evOp, SX.opd, SX.opds, SX.optOpd, SX.look, SX.putS, SX.gobs, SX.AllP, SX.leave, SX.lookC, SX.lookB, SX.lookT, SX.lookN, SX.findK, SX.evBuiltin, SX.ints, SX.foldI, SX.evBin, SX.evInt, SX.evStr, SX.evEq, SX.arith, SX.evLoad, SX.shapeUp, SX.evFieldAddr, SX.evField, SX.evIndexAddr, SX.evIndex, SX.evFill, SX.evBuild, SX.szs, SX.cellsV, SX.evNew, SX.evStore, SX.spliceL, SX.SV.cells, SX.evConv, SX.evSlice, SX.bnd, SX.evNil, SX.evUn, SX.evPick, SX.pickOpd, SX.popTo, SX.cnd, SX.env0, SX.TD.isAgg, SX.TD.isIface, SX.tails, SX.NotAgg, SX.evLookup, SX.evConvH, SX.evPtrEq, SX.isCells, SX.thaw, SX.frz, SX.fixB, SX.rootIx, SX.Froz, SX.frzStep, SX.fork, Go.Value.cells, Go.undef, cfg33, lseC, hz]
    refine ⟨by (unfold SX.Ob; first | trivial | omega | ((try simp only [SX.inK]); (try simp [SX.den, SX.IsU8, SX.AllP, *]); (try omega))), ?_⟩
    intro a5 w5 hr5 _
    exact post_retn (endC1 hr5 rfl rfl rfl tok33 rfl ⟨z, by simp [den, denL, lseC], hz ▸ nth_mem hj, fun y' hy' => (by
      obtain ⟨i, hi, rfl⟩ := List.mem_iff_getElem.1 hy'
      have := hmin i hi
      rw [hz, nth_lt hi] at this
      exact this), hr5.keeps.toBelow⟩).1

def NextP (t : Tab) (K : List Int) (n : Int) : Prop := (someL t (nextP K) = [] → n = 0) ∧ (someL t (nextP K) ≠ [] → ∃ x, x ∈ someL t (nextP K) ∧ x.u = n ∧ ∀ y ∈ someL t (nextP K), n ≤ y.u)
def NextR (w : World) (t : Tab) (K : List Int) (e : Ending) (w' : World) : Prop := ∃ n, e = .returned (den (.v (.int .i64 n))) ∧ NextP t K n ∧ Below w.heap.size w w'
theorem someL_len (t : Tab) (p : Lse → Bool) : (someL t p).length ≤ t.L.length := by
  unfold someL
  split
  · exact List.length_filter_le _ _
  · simp

set_option maxRecDepth 100000 in
set_option maxHeartbeats 16000000 in
/-- Next. -/
theorem Next_ok {P P' : Nat → Prop} (w : World) (v v2 : Value) (t : Tab) (K : List Int) (hL : RdL P w v t.L) (hn : t.L.length ≤ 100000) (hK : RdI P' w v2 K) (hnK : K.length ≤ 1000000000000000) : Calls Try.prog 12 (denL [.ag (tabC t v), .v v2]).toArray w (NextR w t K) := by
  obtain ⟨ad, cp, rfl⟩ := hL.slice
  obtain ⟨adk, cpk, rfl⟩ := hK.slice
  refine enter (F := frame0 w) Try.func12 rfl [.ag (tabC t (.slice ad t.L.length cp)), .v (.slice adk K.length cpk)] [] (by simp [Try.f12]) trivial (keeps0 w) fun a hr => ?_
  refine seg cfg12_ok mixed PanicFree.body 1000 [] [] hr (by first | trivial | exact HpRep.nil | assumption) (by kernel_rfl) fun sA hsA => ?_
  simp (maxSteps := 10000000) [SX.vc, SX.stop, SX.contS, SX.contB, SX.contW, SX.contR, SX.contD, SX.sxStep, SX.stepPure, SX.stepNew, SX.stepStore, SX.stepKeep, SX.guardIx, SX.evOp, SX.opd, SX.opds, SX.optOpd, SX.look, SX.putS, SX.gobs, SX.AllP, SX.leave, SX.lookC, SX.lookB, SX.lookT, SX.lookN, SX.findK, SX.evBuiltin, SX.ints, SX.foldI, SX.evBin, SX.evInt, SX.evStr, SX.evEq, SX.arith, SX.evLoad, SX.shapeUp, SX.evFieldAddr, SX.evField, SX.evIndexAddr, SX.evIndex, SX.evFill, SX.evBuild, SX.szs, SX.cellsV, SX.evNew, SX.evStore, SX.spliceL, SX.SV.cells, SX.evConv, SX.evSlice, SX.bnd, SX.evNil, SX.evUn, SX.evPick, SX.pickOpd, SX.popTo, SX.cnd, SX.env0, SX.TD.isAgg, SX.TD.isIface, SX.tails, SX.NotAgg, SX.evLookup, SX.evConvH, SX.evPtrEq, SX.isCells, SX.thaw, SX.frz, SX.fixB, SX.rootIx, SX.Froz, SX.frzStep, SX.fork, Go.Value.cells, Go.undef, cfg12, Try.f12, tabC]
  refine ⟨by (unfold SX.Ob; first | trivial | omega | ((try simp only [SX.inK]); (try simp [SX.den, SX.IsU8, SX.AllP, *]); (try omega))), ?_⟩
  intro a1 w1 hr1 _
  have hA1 := hr1.all
  have hsA : sA + 1 < w1.heap.size := SO.rep_lt hA1.2.1.1
  have hK1 := hK.below hr1.keeps.toBelow
  refine post_call 30 [.ag [.v (.int .i64 t.last), .v (.int .i64 t.now), .v (.slice ad t.L.length cp)], .fn (.func 31) [] [.ptr 1 (sA + 1) 0]] hr1 (by first | exact wanted_none rfl | exact wanted_zero (hr1.env.same rfl rfl rfl rfl) rfl (by simp) | exact wanted_zero (hr1.env.same rfl rfl rfl rfl) rfl (by simp [*])) rfl (callable 30 Try.func30) (some_ok 31 (nextP K) w1 _ t (sA + 1) (hL.below hr1.keeps.toBelow) (by omega) (callable 31 Try.func31) (fun w' x hb => next1_ok w' x (sA + 1) _ K (hK1.below hb) hnK (SO.rep_same hA1.2.1.1 (hb.block _ hsA)))) ?_
  rintro e2 w2 ⟨v2', rfl, hO2, hb2⟩
  refine ⟨_, rfl, ?_⟩
  have h2 := hr1.ret hb2 8 (.v v2') rfl _ (hr1.all.below hb2) (by simp) rfl
  have k0 := SO.rep_lt hA1.1.1
  obtain ⟨N, hN⟩ : ∃ N, someL t (nextP K) = N := ⟨_, rfl⟩
  have hNl : N.length ≤ 100000 := hN ▸ Nat.le_trans (someL_len t _) hn
  rw [hN] at hO2
  obtain ⟨ad2, cp2, rfl⟩ := hO2.slice
  rcases hq : N.length with _ | q
  · obtain rfl : N = [] := List.length_eq_zero_iff.1 hq
    refine seg cfg12_ok mixed PanicFree.body 1000 [true] [] h2 (by first | trivial | exact HpRep.nil | assumption) (by kernel_rfl) fun s_ hs_ => ?_
    simp (maxSteps := 10000000) [SX.vc, SX.stop, SX.contS, SX.contB, SX.contW, SX.contR, SX.contD, SX.sxStep, SX.stepPure, SX.stepNew, SX.stepStore, SX.stepKeep, SX.guardIx, SX.evOp, SX.opd, SX.opds, SX.optOpd, SX.look, SX.putS, SX.gobs, SX.AllP, SX.leave, SX.lookC, SX.lookB, SX.lookT, SX.lookN, SX.findK, SX.evBuiltin, SX.ints, SX.foldI, SX.evBin, SX.evInt, SX.evStr, SX.evEq, SX.arith, SX.evLoad, SX.shapeUp, SX.evFieldAddr, SX.evField, SX.evIndexAddr, SX.evIndex, SX.evFill, SX.evBuild, SX.szs, SX.cellsV, SX.evNew, SX.evStore, SX.spliceL, SX.SV.cells, SX.evConv, SX.evSlice, SX.bnd, SX.evNil, SX.evUn, SX.evPick, SX.pickOpd, SX.popTo, SX.cnd, SX.env0, SX.TD.isAgg, SX.TD.isIface, SX.tails, SX.NotAgg, SX.evLookup, SX.evConvH, SX.evPtrEq, SX.isCells, SX.thaw, SX.frz, SX.fixB, SX.rootIx, SX.Froz, SX.frzStep, SX.fork, Go.Value.cells, Go.undef, cfg12]
    refine ⟨by (unfold SX.Ob; first | trivial | omega | ((try simp only [SX.inK]); (try simp [SX.den, SX.IsU8, SX.AllP, *]); (try omega))), ?_⟩
    intro a3 w3 hr3 _
    exact post_retn (end1 hr3 rfl rfl ⟨0, rfl, ⟨fun _ => rfl, fun h => absurd hN h⟩, hr3.keeps.toBelow⟩).1
  · have hne : N ≠ [] := fun h => by rw [h] at hq; simp at hq
    rw [hq] at h2
    refine seg cfg12_ok mixed PanicFree.body 1000 [false] [] h2.rebase (by first | trivial | exact HpRep.nil | assumption) (by kernel_rfl) fun s_ hs_ => ?_
    simp (maxSteps := 10000000) [SX.vc, SX.stop, SX.contS, SX.contB, SX.contW, SX.contR, SX.contD, SX.sxStep, SX.stepPure, SX.stepNew, SX.stepStore, SX.stepKeep, SX.guardIx, SX.evOp, SX.opd, SX.opds, SX.optOpd, SX.look, SX.putS, SX.gobs, SX.AllP, SX.leave, SX.lookC, SX.lookB, SX.lookT, SX.lookN, SX.findK, SX.evBuiltin, SX.ints, SX.foldI, SX.evBin, SX.evInt, SX.evStr, SX.evEq, SX.arith, SX.evLoad, SX.shapeUp, SX.evFieldAddr, SX.evField, SX.evIndexAddr, SX.evIndex, SX.evFill, SX.evBuild, SX.szs, SX.cellsV, SX.evNew, SX.evStore, SX.spliceL, SX.SV.cells, SX.evConv, SX.evSlice, SX.bnd, SX.evNil, SX.evUn, SX.evPick, SX.pickOpd, SX.popTo, SX.cnd, SX.env0, SX.TD.isAgg, SX.TD.isIface, SX.tails, SX.NotAgg, SX.evLookup, SX.evConvH, SX.evPtrEq, SX.isCells, SX.thaw, SX.frz, SX.fixB, SX.rootIx, SX.Froz, SX.frzStep, SX.fork, Go.Value.cells, Go.undef, cfg12]
    refine ⟨by (unfold SX.Ob; first | trivial | omega | ((try simp only [SX.inK]); (try simp [SX.den, SX.IsU8, SX.AllP, *]); (try omega))), ?_⟩
    intro a3 w3 hr3' _
    have hr3 := h2.unbase hr3'
    have hO3 := hO2.rd.keep hr3'.keeps (by simp [frameAt, mutB]; omega)
    rw [hq] at hO3
    refine post_call 33 [.v (.slice ad2 (q + 1) cp2), .fn (.func 34) [] []] hr3 (by first | exact wanted_none rfl | exact wanted_zero (hr3.env.same rfl rfl rfl rfl) rfl (by simp) | exact wanted_zero (hr3.env.same rfl rfl rfl rfl) rfl (by simp [*])) rfl (callable 33 Try.func33) (min_ok w3 _ N hO3 (by omega) (by omega)) ?_
    rintro e4 w4 ⟨x, rfl, hx1, hx2, hb4⟩
    refine ⟨_, rfl, ?_⟩
    have h4 := hr3.ret hb4 13 (.ag (lseC x)) rfl _ (hr3.all.below hb4) (by simp) rfl
    refine seg cfg12_ok mixed PanicFree.body 1000 [] [] h4 (by first | trivial | exact HpRep.nil | assumption) (by kernel_rfl) fun s_ hs_ => ?_
    simp (maxSteps := 10000000) [SX.vc, SX.stop, SX.contS, SX.contB, SX.contW, SX.contR, SX.contD, SX.sxStep, SX.stepPure, SX.stepNew, SX.stepStore, SX.stepKeep, SX.guardIx, SX.evOp, SX.opd, SX.opds, SX.optOpd, SX.look, SX.putS, SX.gobs, SX.AllP, SX.leave, SX.lookC, SX.lookB, SX.lookT, SX.lookN, SX.findK, SX.evBuiltin, SX.ints, SX.foldI, SX.evBin, SX.evInt, SX.evStr, SX.evEq, SX.arith, SX.evLoad, SX.shapeUp, SX.evFieldAddr, SX.evField, SX.evIndexAddr, SX.evIndex, SX.evFill, SX.evBuild, SX.szs, SX.cellsV, SX.evNew, SX.evStore, SX.spliceL, SX.SV.cells, SX.evConv, SX.evSlice, SX.bnd, SX.evNil, SX.evUn, SX.evPick, SX.pickOpd, SX.popTo, SX.cnd, SX.env0, SX.TD.isAgg, SX.TD.isIface, SX.tails, SX.NotAgg, SX.evLookup, SX.evConvH, SX.evPtrEq, SX.isCells, SX.thaw, SX.frz, SX.fixB, SX.rootIx, SX.Froz, SX.frzStep, SX.fork, Go.Value.cells, Go.undef, cfg12, lseC]
    refine ⟨by (unfold SX.Ob; first | trivial | omega | ((try simp only [SX.inK]); (try simp [SX.den, SX.IsU8, SX.AllP, *]); (try omega))), ?_⟩
    intro a5 w5 hr5 _
    exact post_retn (end1 hr5 rfl rfl ⟨x.u, rfl, ⟨fun h => absurd (hN.symm.trans h) hne, fun _ => ⟨x, hN ▸ hx1, rfl, hN ▸ hx2⟩⟩, hr5.keeps.toBelow⟩).1

set_option maxRecDepth 100000 in
set_option maxHeartbeats 8000000 in
/-- Of's closure. -/
theorem of1_ok (w : World) (x : Lse) (c : Nat) (n : Int) (hc : (SO.cells [.v (.int .i64 n)] 3).rep w c) : Calls Try.prog 38 (denL [.ag (lseC x), .ptr 0 c 0]).toArray w (Ret w (.v (.bool (decide (x.h = n))))) := by
  refine enter (F := frame0 w) Try.func38 rfl [.ag (lseC x), .ptr 0 c 0] [(c, false, .cells [.v (.int .i64 n)] 3)] (by simp [Try.f38]) (HpAll.one hc) (keeps0 w) fun a hr => ?_
  refine seg cfg38_ok mixed PanicFree.body 1000 [] [] hr (by first | trivial | exact HpRep.nil | assumption) (by kernel_rfl) fun s_ hs_ => ?_
  simp (maxSteps := 10000000) [SX.vc, SX.stop, SX.contS, SX.contB, SX.contW, SX.contR, SX.contD, SX.sxStep, SX.stepPure, SX.stepNew, SX.stepStore, SX.stepKeep, SX.guardIx, SX.evOp, SX.opd, SX.opds, SX.optOpd, SX.look, SX.putS, SX.gobs, SX.AllP, SX.leave, SX.lookC, SX.lookB, SX.lookT, SX.lookN, SX.findK, SX.evBuiltin, SX.ints, SX.foldI, SX.evBin, SX.evInt, SX.evStr, SX.evEq, SX.arith, SX.evLoad, SX.shapeUp, SX.evFieldAddr, SX.evField, SX.evIndexAddr, SX.evIndex, SX.evFill, SX.evBuild, SX.szs, SX.cellsV, SX.evNew, SX.evStore, SX.spliceL, SX.SV.cells, SX.evConv, SX.evSlice, SX.bnd, SX.evNil, SX.evUn, SX.evPick, SX.pickOpd, SX.popTo, SX.cnd, SX.env0, SX.TD.isAgg, SX.TD.isIface, SX.tails, SX.NotAgg, SX.evLookup, SX.evConvH, SX.evPtrEq, SX.isCells, SX.thaw, SX.frz, SX.fixB, SX.rootIx, SX.Froz, SX.frzStep, SX.fork, Go.Value.cells, Go.undef, cfg38, Try.f38, lseC]
  refine ⟨by (unfold SX.Ob; first | trivial | omega | ((try simp only [SX.inK]); (try simp [SX.den, SX.IsU8, SX.AllP, *]); (try omega))), ?_⟩
  intro a1 w1 hr1 _
  exact post_retn (end1 hr1 rfl rfl ⟨ret_dec (by simp), hr1.keeps.toBelow⟩).1

def ofL (t : Tab) (h : Int) : List Int := (someL t fun x => decide (x.h = h)).map (·.k)
def OfR (w : World) (t : Tab) (h : Int) (e : Ending) (w' : World) : Prop := ∃ v, e = .returned (den (.v v)) ∧ OwI (fun x => w.heap.size ≤ x) w' v (ofL t h) ∧ Below w.heap.size w w'
def OfLoop (B : Nat) (F : Fr) (v : Value) (N : List Lse) (m : Nat) (a : Act) (w' : World) : Prop :=
  ∃ (k : Nat) (out : List Int) (v' : Value), m = N.length - k ∧ k ≤ N.length ∧ out = (N.take k).map (·.k) ∧ OwI (fun x => B ≤ x) w' v' out ∧ RepX F ⟨[(12, 0, .v (.int .i64 k)), (11, 0, .v (.int .i64 N.length)), (10, 0, .v v), (5, 0, .v v')], [], 0, 0, 23, [], [], []⟩ a w'

set_option maxRecDepth 100000 in
set_option maxHeartbeats 16000000 in
/-- Of. -/
theorem Of_ok {P : Nat → Prop} (w : World) (v : Value) (t : Tab) (h : Int) (hL : RdL P w v t.L) (hn : t.L.length ≤ 100000) : Calls Try.prog 14 (denL [.ag (tabC t v), .v (.int .i64 h)]).toArray w (OfR w t h) := by
  obtain ⟨ad, cp, rfl⟩ := hL.slice
  refine enter (F := frame0 w) Try.func14 rfl [.ag (tabC t (.slice ad t.L.length cp)), .v (.int .i64 h)] [] (by simp [Try.f14]) trivial (keeps0 w) fun a hr => ?_
  refine seg cfg14_ok mixed PanicFree.body 1000 [] [] hr (by first | trivial | exact HpRep.nil | assumption) (by kernel_rfl) fun sA hsA => ?_
  simp (maxSteps := 10000000) [SX.vc, SX.stop, SX.contS, SX.contB, SX.contW, SX.contR, SX.contD, SX.sxStep, SX.stepPure, SX.stepNew, SX.stepStore, SX.stepKeep, SX.guardIx, SX.evOp, SX.opd, SX.opds, SX.optOpd, SX.look, SX.putS, SX.gobs, SX.AllP, SX.leave, SX.lookC, SX.lookB, SX.lookT, SX.lookN, SX.findK, SX.evBuiltin, SX.ints, SX.foldI, SX.evBin, SX.evInt, SX.evStr, SX.evEq, SX.arith, SX.evLoad, SX.shapeUp, SX.evFieldAddr, SX.evField, SX.evIndexAddr, SX.evIndex, SX.evFill, SX.evBuild, SX.szs, SX.cellsV, SX.evNew, SX.evStore, SX.spliceL, SX.SV.cells, SX.evConv, SX.evSlice, SX.bnd, SX.evNil, SX.evUn, SX.evPick, SX.pickOpd, SX.popTo, SX.cnd, SX.env0, SX.TD.isAgg, SX.TD.isIface, SX.tails, SX.NotAgg, SX.evLookup, SX.evConvH, SX.evPtrEq, SX.isCells, SX.thaw, SX.frz, SX.fixB, SX.rootIx, SX.Froz, SX.frzStep, SX.fork, Go.Value.cells, Go.undef, cfg14, Try.f14, tabC]
  refine ⟨by (unfold SX.Ob; first | trivial | omega | ((try simp only [SX.inK]); (try simp [SX.den, SX.IsU8, SX.AllP, *]); (try omega))), ?_⟩
  intro a1 w1 hr1 _
  have hA1 := hr1.all
  have hsA : sA + 1 < w1.heap.size := SO.rep_lt hA1.2.1.1
  have z1 : w.heap.size ≤ w1.heap.size := hr1.keeps.size
  refine post_call 30 [.ag [.v (.int .i64 t.last), .v (.int .i64 t.now), .v (.slice ad t.L.length cp)], .fn (.func 38) [] [.ptr 1 (sA + 1) 0]] hr1 (by first | exact wanted_none rfl | exact wanted_zero (hr1.env.same rfl rfl rfl rfl) rfl (by simp) | exact wanted_zero (hr1.env.same rfl rfl rfl rfl) rfl (by simp [*])) rfl (callable 30 Try.func30) (some_ok 38 (fun x => decide (x.h = h)) w1 _ t (sA + 1) (hL.below hr1.keeps.toBelow) (by omega) (callable 38 Try.func38) (fun w' x hb => of1_ok w' x (sA + 1) h (SO.rep_same hA1.2.1.1 (hb.block _ hsA)))) ?_
  rintro e2 w2 ⟨v2, rfl, hO2, hb2⟩
  refine ⟨_, rfl, ?_⟩
  have h2 := hr1.ret hb2 10 (.v v2) rfl _ (hr1.all.below hb2) (by simp) rfl
  have k0 := SO.rep_lt hA1.1.1
  obtain ⟨N, hN⟩ : ∃ N, (someL t fun x => decide (x.h = h)) = N := ⟨_, rfl⟩
  have hNl : N.length ≤ 100000 := hN ▸ Nat.le_trans (someL_len t _) hn
  have hof : ofL t h = N.map (·.k) := by rw [ofL, hN]
  rw [hN] at hO2
  obtain ⟨ad2, cp2, rfl⟩ := hO2.slice
  refine seg cfg14_ok mixed PanicFree.body 1000 [] [] h2.rebase (by first | trivial | exact HpRep.nil | assumption) (by kernel_rfl) fun s_ hs_ => ?_
  simp (maxSteps := 10000000) [SX.vc, SX.stop, SX.contS, SX.contB, SX.contW, SX.contR, SX.contD, SX.sxStep, SX.stepPure, SX.stepNew, SX.stepStore, SX.stepKeep, SX.guardIx, SX.evOp, SX.opd, SX.opds, SX.optOpd, SX.look, SX.putS, SX.gobs, SX.AllP, SX.leave, SX.lookC, SX.lookB, SX.lookT, SX.lookN, SX.findK, SX.evBuiltin, SX.ints, SX.foldI, SX.evBin, SX.evInt, SX.evStr, SX.evEq, SX.arith, SX.evLoad, SX.shapeUp, SX.evFieldAddr, SX.evField, SX.evIndexAddr, SX.evIndex, SX.evFill, SX.evBuild, SX.szs, SX.cellsV, SX.evNew, SX.evStore, SX.spliceL, SX.SV.cells, SX.evConv, SX.evSlice, SX.bnd, SX.evNil, SX.evUn, SX.evPick, SX.pickOpd, SX.popTo, SX.cnd, SX.env0, SX.TD.isAgg, SX.TD.isIface, SX.tails, SX.NotAgg, SX.evLookup, SX.evConvH, SX.evPtrEq, SX.isCells, SX.thaw, SX.frz, SX.fixB, SX.rootIx, SX.Froz, SX.frzStep, SX.fork, Go.Value.cells, Go.undef, cfg14]
  refine ⟨by (unfold SX.Ob; first | trivial | omega | ((try simp only [SX.inK]); (try simp [SX.den, SX.IsU8, SX.AllP, *]); (try omega))), ?_⟩
  intro a3 w3 hr3' _
  have hr3a := h2.unbase hr3'
  have hr3 := hr3a.see _ (HpAll.imm hr3a.all)
  simp only [List.map_cons, List.map_nil] at hr3
  have hN3 := (hO2.rd.keep hr3'.keeps (by simp [frameAt, mutB]; omega)).mono (P' := fun x => x < w3.heap.size) fun x hx _ => hx
  have z3 : w.heap.size ≤ w3.heap.size := hr3.keeps.size
  refine post_loop (OfLoop w3.heap.size _ (.slice ad2 N.length cp2) N) N.length ⟨0, [], .slice none 0 0, rfl, by omega, rfl, OwS.nil, hr3.rebase.re (by simp [envTo, SX.look, den]) trivial rfl rfl⟩ ?_
  rintro m a4 w4 ⟨k, out, v', rfl, hk, hout, hO, hr4⟩
  have hol : out.length = k := by rw [hout]; simp; omega
  have z4 : w3.heap.size ≤ w4.heap.size := hr4.keeps.size
  by_cases hlt : k < N.length
  · have hN4 := hN3.keep hr4.keeps (by simp [frameAt, mutB])
    obtain ⟨b, o0, cap, u, fz, hP, hv, hrep⟩ := hN4.opn hlt
    cases hv
    obtain ⟨x, hx⟩ : ∃ x, nth lse0 N k = x := ⟨_, rfl⟩
    obtain ⟨vd, vc, rfl⟩ := hO.slice
    have h5 := (hr4.top 10 (.sl 0 b o0 0 N.length cp2 4) rfl (by simp [den])).see _ (HpAll.one hrep)
    refine seg cfg14_ok mixed PanicFree.body 1000 [true] [] h5.rebase (by first | trivial | exact HpRep.nil | assumption) (by kernel_rfl) fun s_ hs_ => ?_
    simp (maxSteps := 10000000) [SX.vc, SX.stop, SX.contS, SX.contB, SX.contW, SX.contR, SX.contD, SX.sxStep, SX.stepPure, SX.stepNew, SX.stepStore, SX.stepKeep, SX.guardIx, SX.evOp, SX.opd, SX.opds, SX.optOpd, SX.look, SX.putS, SX.gobs, SX.AllP, SX.leave, SX.lookC, SX.lookB, SX.lookT, SX.lookN, SX.findK, SX.evBuiltin, SX.ints, SX.foldI, SX.evBin, SX.evInt, SX.evStr, SX.evEq, SX.arith, SX.evLoad, SX.shapeUp, SX.evFieldAddr, SX.evField, SX.evIndexAddr, SX.evIndex, SX.evFill, SX.evBuild, SX.szs, SX.cellsV, SX.evNew, SX.evStore, SX.spliceL, SX.SV.cells, SX.evConv, SX.evSlice, SX.bnd, SX.evNil, SX.evUn, SX.evPick, SX.pickOpd, SX.popTo, SX.cnd, SX.env0, SX.TD.isAgg, SX.TD.isIface, SX.tails, SX.NotAgg, SX.evLookup, SX.evConvH, SX.evPtrEq, SX.isCells, SX.thaw, SX.frz, SX.fixB, SX.rootIx, SX.Froz, SX.frzStep, SX.fork, Go.Value.cells, Go.undef, cfg14, lseC, hx]
    refine ⟨by (unfold SX.Ob; first | trivial | omega | ((try simp only [SX.inK]); (try simp [SX.den, SX.IsU8, SX.AllP, *]); (try omega))), ?_⟩
    intro a6 w6 hr6' _
    have hr6 := h5.unbase hr6'
    have z6 : w3.heap.size ≤ w6.heap.size := hr6.keeps.size
    have hO6 := hO.keep hr6'.keeps (by simp [frameAt, mutB])
    refine post_app (C := cfg14) cfg14_ok hr6 (by first | exact wanted_none rfl | exact wanted_zero (hr6.env.same rfl rfl rfl rfl) rfl (by simp)) rfl (by simp) rfl rfl rfl rfl rfl rfl rfl rfl rfl (by decide) (flatI _) (by (try simp only [List.length_append, List.length_cons, List.length_nil, List.length_map, List.length_take]); omega) (fun x hx => Nat.le_trans z6 hx) hO6 (RdS.lit (enc := intC) (sz := 1) (d := (0 : Int)) (x := x.k) hr6.all.2.2.1.1 (by simp [intC])) [] (fun _ _ _ _ => trivial) (fun x hx => .inl hx) fun V7 a7 w7 B7 hO7 hB7 hk7 hr7 => ?_
    refine seg cfg14_ok mixed PanicFree.body 1000 [] [] hr7.rebase (by first | trivial | exact HpRep.nil | assumption) (by kernel_rfl) fun s_ hs_ => ?_
    simp (maxSteps := 10000000) [SX.vc, SX.stop, SX.contS, SX.contB, SX.contW, SX.contR, SX.contD, SX.sxStep, SX.stepPure, SX.stepNew, SX.stepStore, SX.stepKeep, SX.guardIx, SX.evOp, SX.opd, SX.opds, SX.optOpd, SX.look, SX.putS, SX.gobs, SX.AllP, SX.leave, SX.lookC, SX.lookB, SX.lookT, SX.lookN, SX.findK, SX.evBuiltin, SX.ints, SX.foldI, SX.evBin, SX.evInt, SX.evStr, SX.evEq, SX.arith, SX.evLoad, SX.shapeUp, SX.evFieldAddr, SX.evField, SX.evIndexAddr, SX.evIndex, SX.evFill, SX.evBuild, SX.szs, SX.cellsV, SX.evNew, SX.evStore, SX.spliceL, SX.SV.cells, SX.evConv, SX.evSlice, SX.bnd, SX.evNil, SX.evUn, SX.evPick, SX.pickOpd, SX.popTo, SX.cnd, SX.env0, SX.TD.isAgg, SX.TD.isIface, SX.tails, SX.NotAgg, SX.evLookup, SX.evConvH, SX.evPtrEq, SX.isCells, SX.thaw, SX.frz, SX.fixB, SX.rootIx, SX.Froz, SX.frzStep, SX.fork, Go.Value.cells, Go.undef, cfg14]
    refine ⟨by (unfold SX.Ob; first | trivial | omega | ((try simp only [SX.inK]); (try simp [SX.den, SX.IsU8, SX.AllP, *]); (try omega))), ?_⟩
    intro a8 w8 hr8' _
    have hr8 := hr7.unbase hr8'
    have htk : (N.take (k + 1)).map (·.k) = (N.take k).map (·.k) ++ [x.k] := by rw [take_nth (d := lse0) hlt, hx]; simp
    exact post_rnd (N.length - (k + 1)) (by omega) ⟨k + 1, out ++ [x.k], V7, rfl, by omega, by rw [htk, hout], hO7.keep hr8'.keeps (by simp [frameAt, mutB]), hr8.re (by simp [envTo, SX.look, den]) trivial rfl rfl⟩
  · obtain rfl : k = N.length := by omega
    rw [List.take_length, ← hof] at hout
    subst hout
    refine seg cfg14_ok mixed PanicFree.body 1000 [false] [] hr4.rebase (by first | trivial | exact HpRep.nil | assumption) (by kernel_rfl) fun s_ hs_ => ?_
    simp (maxSteps := 10000000) [SX.vc, SX.stop, SX.contS, SX.contB, SX.contW, SX.contR, SX.contD, SX.sxStep, SX.stepPure, SX.stepNew, SX.stepStore, SX.stepKeep, SX.guardIx, SX.evOp, SX.opd, SX.opds, SX.optOpd, SX.look, SX.putS, SX.gobs, SX.AllP, SX.leave, SX.lookC, SX.lookB, SX.lookT, SX.lookN, SX.findK, SX.evBuiltin, SX.ints, SX.foldI, SX.evBin, SX.evInt, SX.evStr, SX.evEq, SX.arith, SX.evLoad, SX.shapeUp, SX.evFieldAddr, SX.evField, SX.evIndexAddr, SX.evIndex, SX.evFill, SX.evBuild, SX.szs, SX.cellsV, SX.evNew, SX.evStore, SX.spliceL, SX.SV.cells, SX.evConv, SX.evSlice, SX.bnd, SX.evNil, SX.evUn, SX.evPick, SX.pickOpd, SX.popTo, SX.cnd, SX.env0, SX.TD.isAgg, SX.TD.isIface, SX.tails, SX.NotAgg, SX.evLookup, SX.evConvH, SX.evPtrEq, SX.isCells, SX.thaw, SX.frz, SX.fixB, SX.rootIx, SX.Froz, SX.frzStep, SX.fork, Go.Value.cells, Go.undef, cfg14]
    refine ⟨by (unfold SX.Ob; first | trivial | omega | ((try simp only [SX.inK]); (try simp [SX.den, SX.IsU8, SX.AllP, *]); (try omega))), ?_⟩
    intro a5 w5 hr5' _
    have hO5 := hO.keep hr5'.keeps (by simp [frameAt, mutB])
    have hr5 := hr3.unbase (hr4.unbase hr5')
    exact post_retn (end1 hr5 rfl rfl ⟨v', rfl, hO5.mono fun x _ h => by omega, hr5.keeps.toBelow⟩).1
end Go.Proofs
