/- The table is filled. -/
import Derived.Test.YtcepnjkcdkkdpaaRB
namespace Go.Proofs
set_option linter.unusedVariables false
set_option linter.unusedSimpArgs false
open Go Go.SX Go.RowKit Go.Crc

theorem callable (n : Nat) {fn : Func} (h : Try.prog.funcs[n]? = some fn) (h2 : (fn.name == "runtime.NumGoroutine") = false := by kernel_rfl) (h3 : fn.body.isNone = false := by kernel_rfl) : Callable Try.prog n := ⟨fn, h, h2, h3⟩

def FillOut (w : World) (b : Nat) (d s : Int) (T : Nat → Int) (u : Int) (m : Nat) (a : Act) (w' : World) : Prop :=
  ∃ k : Nat, m = 256 - k ∧ k ≤ 256 ∧ RepX ⟨w, w.heap.size, [b]⟩ ⟨[(4, 0, .v (.int .i64 k)), (0, 0, .ptr 0 b 0)], [(b, true, .cells (tabC d s (fillI T k) u) 55)], 0, 0, 26, [], [], []⟩ a w'

def FillIn (w : World) (b : Nat) (d s : Int) (T : Nat → Int) (u : Int) (k : Nat) (m : Nat) (a : Act) (w' : World) : Prop :=
  ∃ j : Nat, m = 8 - j ∧ j ≤ 8 ∧ RepX ⟨w, w.heap.size, [b]⟩ ⟨[(9, 0, .v (.int .i64 j)), (3, 0, .v (.int .u32 (rv (fN j (BitVec.ofNat 32 k))))), (2, 0, .v (.int .i64 k)), (4, 0, .v (.int .i64 k)), (0, 0, .ptr 0 b 0)], [(b, true, .cells (tabC d s (fillI T k) u) 55)], 0, 0, 26, [], [], []⟩ a w'

def FillPost (w : World) (b : Nat) (d s : Int) (u : Int) (e : Ending) (w' : World) : Prop := e = .returned (.tuple #[]) ∧ KeepsTo w [b] w' ∧ (SO.cells (tabC d s tabI u) 55).rep w' b

theorem tab_congr {w : World} {b : Nat} {d s : Int} {T T' : Nat → Int} {u : Int} (h : (SO.cells (tabC d s T u) 55).rep w b) (hT : ∀ i, i < 256 → T i = T' i) : (SO.cells (tabC d s T' u) 55).rep w b := by
  have : tabC d s T u = tabC d s T' u := by
    unfold tabC
    congr 4
    apply List.map_congr_left
    intro i hi
    rw [hT i (List.mem_range.1 hi)]
  rw [← this]; exact h

set_option maxRecDepth 100000 in
set_option maxHeartbeats 8000000 in
theorem fill_ok (w : World) (b : Nat) (d s : Int) (T : Nat → Int) (u : Int) (hb : (SO.cells (tabC d s T u) 55).rep w b) :
    Calls Try.prog 20 (denL [.v (.pointer (some ⟨b, 0, none⟩))]).toArray w (FillPost w b d s u) := by
  have hE : HpAll ⟨w, w.heap.size, [b]⟩ w [(b, true, .cells (tabC d s T u) 55)] := ⟨⟨hb, by simp, by simp⟩, trivial⟩
  refine enter (F := ⟨w, w.heap.size, [b]⟩) Try.func20 rfl [.ptr 0 b 0] _ (by simp [Try.f20]) hE (KeepsTo.refl w _) fun a hr => ?_
  refine seg cfg20_ok mixed PanicFree.body 1000 [] [] hr (by first | trivial | exact HpRep.nil | assumption) (by kernel_rfl) fun s_ hs_ => ?_
  simp (maxSteps := 10000000) [SX.vc, SX.stop, SX.contS, SX.contB, SX.contW, SX.contR, SX.contD, SX.sxStep, SX.stepPure, SX.stepNew, SX.stepStore, SX.stepKeep, SX.guardIx, SX.evOp, SX.opd, SX.opds, SX.optOpd, SX.look, SX.putS, SX.gobs, SX.AllP, SX.leave, SX.lookC, SX.lookB, SX.lookT, SX.lookN, SX.findK, SX.evBuiltin, SX.ints, SX.foldI, SX.evBin, SX.evInt, SX.evStr, SX.evEq, SX.arith, SX.evLoad, SX.shapeUp, SX.evFieldAddr, SX.evField, SX.evIndexAddr, SX.evIndex, SX.evFill, SX.evBuild, SX.szs, SX.cellsV, SX.evNew, SX.evStore, SX.spliceL, SX.SV.cells, SX.evConv, SX.evSlice, SX.bnd, SX.evNil, SX.evUn, SX.evPick, SX.pickOpd, SX.popTo, SX.cnd, SX.env0, SX.TD.isAgg, SX.TD.isIface, SX.tails, SX.NotAgg, SX.evLookup, SX.evConvH, SX.evPtrEq, SX.isCells, Go.Value.cells, cfg20, Try.f20]
  refine ⟨by (unfold SX.Ob; first | trivial | omega | ((try simp only [SX.inK]); (try simp [SX.den, SX.IsU8, *]); (try omega))), ?_⟩
  intro a1 w1 hr1 _
  refine post_loop (FillOut w b d s T u) 256 ⟨0, rfl, by omega, hr1.re (by simp [envTo, SX.look]) ⟨⟨tab_congr hr1.all.1.1 fun i _ => by simp [fillI], by simp, by simp⟩, trivial⟩ rfl rfl⟩ ?_
  rintro m a2 w2 ⟨k, rfl, hk, hr2⟩
  by_cases hlt : k < 256
  · refine seg cfg20_ok mixed PanicFree.body 1000 [true] [] hr2 (by first | trivial | exact HpRep.nil | assumption) (by kernel_rfl) fun s_ hs_ => ?_
    simp (maxSteps := 10000000) [SX.vc, SX.stop, SX.contS, SX.contB, SX.contW, SX.contR, SX.contD, SX.sxStep, SX.stepPure, SX.stepNew, SX.stepStore, SX.stepKeep, SX.guardIx, SX.evOp, SX.opd, SX.opds, SX.optOpd, SX.look, SX.putS, SX.gobs, SX.AllP, SX.leave, SX.lookC, SX.lookB, SX.lookT, SX.lookN, SX.findK, SX.evBuiltin, SX.ints, SX.foldI, SX.evBin, SX.evInt, SX.evStr, SX.evEq, SX.arith, SX.evLoad, SX.shapeUp, SX.evFieldAddr, SX.evField, SX.evIndexAddr, SX.evIndex, SX.evFill, SX.evBuild, SX.szs, SX.cellsV, SX.evNew, SX.evStore, SX.spliceL, SX.SV.cells, SX.evConv, SX.evSlice, SX.bnd, SX.evNil, SX.evUn, SX.evPick, SX.pickOpd, SX.popTo, SX.cnd, SX.env0, SX.TD.isAgg, SX.TD.isIface, SX.tails, SX.NotAgg, SX.evLookup, SX.evConvH, SX.evPtrEq, SX.isCells, Go.Value.cells, cfg20, vnat]
    refine ⟨by (unfold SX.Ob; first | trivial | omega | ((try simp only [SX.inK]); (try simp [SX.den, SX.IsU8, *]); (try omega))), ?_⟩
    intro a3 w3 hr3 _
    refine post_loop (FillIn w b d s T u k) 8 ⟨0, rfl, by omega, hr3.re (by simp [envTo, SX.look, fN]) hr3.all rfl rfl⟩ ?_
    rintro m a4 w4 ⟨j, rfl, hj, hr4⟩
    by_cases hlj : j < 8
    · have hv := vf (fN j (BitVec.ofNat 32 k))
      refine seg cfg20_ok mixed PanicFree.body 1000 [true] [] hr4 (by first | trivial | exact HpRep.nil | assumption) (by kernel_rfl) fun s_ hs_ => ?_
      simp (maxSteps := 10000000) [SX.vc, SX.stop, SX.contS, SX.contB, SX.contW, SX.contR, SX.contD, SX.sxStep, SX.stepPure, SX.stepNew, SX.stepStore, SX.stepKeep, SX.guardIx, SX.evOp, SX.opd, SX.opds, SX.optOpd, SX.look, SX.putS, SX.gobs, SX.AllP, SX.leave, SX.lookC, SX.lookB, SX.lookT, SX.lookN, SX.findK, SX.evBuiltin, SX.ints, SX.foldI, SX.evBin, SX.evInt, SX.evStr, SX.evEq, SX.arith, SX.evLoad, SX.shapeUp, SX.evFieldAddr, SX.evField, SX.evIndexAddr, SX.evIndex, SX.evFill, SX.evBuild, SX.szs, SX.cellsV, SX.evNew, SX.evStore, SX.spliceL, SX.SV.cells, SX.evConv, SX.evSlice, SX.bnd, SX.evNil, SX.evUn, SX.evPick, SX.pickOpd, SX.popTo, SX.cnd, SX.env0, SX.TD.isAgg, SX.TD.isIface, SX.tails, SX.NotAgg, SX.evLookup, SX.evConvH, SX.evPtrEq, SX.isCells, Go.Value.cells, cfg20, hv]
      refine ⟨by (unfold SX.Ob; first | trivial | omega | ((try simp only [SX.inK]); (try simp [SX.den, SX.IsU8, *]); (try omega))), ?_⟩
      intro a5 w5 hr5 _
      exact post_rnd (8 - (j + 1)) (by omega) ⟨j + 1, rfl, hlj, hr5.re (by simp [envTo, SX.look, den, fN]) hr5.all rfl rfl⟩
    · obtain rfl : j = 8 := by omega
      have h260 : 3 + k + 1 ≤ 260 := by omega
      have h257 : k + 1 ≤ 257 := by omega
      refine seg cfg20_ok mixed PanicFree.body 1000 [false] [] hr4 (by first | trivial | exact HpRep.nil | assumption) (by kernel_rfl) fun s_ hs_ => ?_
      simp (maxSteps := 10000000) [SX.vc, SX.stop, SX.contS, SX.contB, SX.contW, SX.contR, SX.contD, SX.sxStep, SX.stepPure, SX.stepNew, SX.stepStore, SX.stepKeep, SX.guardIx, SX.evOp, SX.opd, SX.opds, SX.optOpd, SX.look, SX.putS, SX.gobs, SX.AllP, SX.leave, SX.lookC, SX.lookB, SX.lookT, SX.lookN, SX.findK, SX.evBuiltin, SX.ints, SX.foldI, SX.evBin, SX.evInt, SX.evStr, SX.evEq, SX.arith, SX.evLoad, SX.shapeUp, SX.evFieldAddr, SX.evField, SX.evIndexAddr, SX.evIndex, SX.evFill, SX.evBuild, SX.szs, SX.cellsV, SX.evNew, SX.evStore, SX.spliceL, SX.SV.cells, SX.evConv, SX.evSlice, SX.bnd, SX.evNil, SX.evUn, SX.evPick, SX.pickOpd, SX.popTo, SX.cnd, SX.env0, SX.TD.isAgg, SX.TD.isIface, SX.tails, SX.NotAgg, SX.evLookup, SX.evConvH, SX.evPtrEq, SX.isCells, Go.Value.cells, cfg20, tab_len, tabI_eq k hlt, tab_splice' _ _ _ _ k hlt, h260]
      refine ⟨by (unfold SX.Ob; first | trivial | omega | ((try simp only [SX.inK]); (try simp [SX.den, SX.IsU8, *]); (try omega))), ?_⟩
      intro a5 w5 hr5 _
      exact post_rnd (256 - (k + 1)) (by omega) ⟨k + 1, rfl, hlt, hr5.re (by simp [envTo, SX.look, den]) ⟨⟨tab_congr hr5.all.1.1 fun i hi => by
        simp only [fillI]
        by_cases h : i = k
        · simp [h]
        · by_cases h2 : i < k
          · simp [h, h2, show i < k + 1 by omega]
          · simp [h, h2, show ¬ i < k + 1 by omega], by simp, by simp⟩, trivial⟩ rfl rfl⟩
  · obtain rfl : k = 256 := by omega
    refine seg cfg20_ok mixed PanicFree.body 1000 [false] [] hr2 (by first | trivial | exact HpRep.nil | assumption) (by kernel_rfl) fun s_ hs_ => ?_
    simp (maxSteps := 10000000) [SX.vc, SX.stop, SX.contS, SX.contB, SX.contW, SX.contR, SX.contD, SX.sxStep, SX.stepPure, SX.stepNew, SX.stepStore, SX.stepKeep, SX.guardIx, SX.evOp, SX.opd, SX.opds, SX.optOpd, SX.look, SX.putS, SX.gobs, SX.AllP, SX.leave, SX.lookC, SX.lookB, SX.lookT, SX.lookN, SX.findK, SX.evBuiltin, SX.ints, SX.foldI, SX.evBin, SX.evInt, SX.evStr, SX.evEq, SX.arith, SX.evLoad, SX.shapeUp, SX.evFieldAddr, SX.evField, SX.evIndexAddr, SX.evIndex, SX.evFill, SX.evBuild, SX.szs, SX.cellsV, SX.evNew, SX.evStore, SX.spliceL, SX.SV.cells, SX.evConv, SX.evSlice, SX.bnd, SX.evNil, SX.evUn, SX.evPick, SX.pickOpd, SX.popTo, SX.cnd, SX.env0, SX.TD.isAgg, SX.TD.isIface, SX.tails, SX.NotAgg, SX.evLookup, SX.evConvH, SX.evPtrEq, SX.isCells, Go.Value.cells, cfg20]
    refine ⟨by (unfold SX.Ob; first | trivial | omega | ((try simp only [SX.inK]); (try simp [SX.den, SX.IsU8, *]); (try omega))), ?_⟩
    intro a3 w3 hr3 _
    exact post_nil (end0 hr3 rfl ⟨rfl, hr3.keeps, tab_congr hr3.all.1.1 fun i hi => by simp [fillI, hi]⟩).2
end Go.Proofs
