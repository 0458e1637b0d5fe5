/- Live: LiveWaste walked. -/
import Derived.Test.YtnmjdelnllchdaaDJ
namespace Go.Proofs
set_option linter.unusedVariables false
set_option linter.unusedSimpArgs false
open Go Go.SX Go.RowKit

def needs (C : List Int) : Nat → Int
  | 0 => 0
  | k + 1 => needs C k + nth (0 : Int) C k
theorem needs_cnts {L : List Ext} {z : Nat} : ∀ k, k ≤ z → needs (cnts L z) k = needs (cnts L k) k
  | 0, _ => rfl
  | k + 1, h => by
    have h1 := needs_cnts (L := L) (z := z) k (by omega)
    have h2 := needs_cnts (L := L) (z := k + 1) k (by omega)
    simp only [needs]
    rw [h1, h2, nth_cnts (by omega), nth_cnts (by omega)]
theorem wst_split {Z : List Zon} {f : Nat → Int} {C : List Int} : ∀ k, (∀ j, j < k → nth (0 : Int) C j = f j) → wst Z f k = wst Z (fun _ => 0) k - needs C k
  | 0, _ => by simp [wst, needs]
  | k + 1, h => by
    have h1 := wst_split (Z := Z) (f := f) (C := C) k fun j hj => h j (by omega)
    simp only [wst, needs]
    rw [h1, h k (by omega)]
    omega
theorem wst_whole' {Z : List Zon} : ∀ k, k ≤ Z.length → 0 ≤ wst Z (fun _ => 0) k
  | 0, _ => by simp [wst]
  | k + 1, h => by
    have := wst_whole' (Z := Z) k (by omega)
    have h6 : 0 ≤ whl (nth zon0 Z k) := by unfold whl; omega
    simp only [wst]
    omega
theorem needs_bound {C : List Int} (hC : ∀ j, j < C.length → 0 ≤ nth (0 : Int) C j ∧ nth (0 : Int) C j ≤ 1125899906842624) : ∀ k, k ≤ C.length → 0 ≤ needs C k ∧ needs C k ≤ 1125899906842624 * (k : Int)
  | 0, _ => by simp [needs]
  | k + 1, h => by
    obtain ⟨h1, h2⟩ := needs_bound hC k (by omega)
    have := hC k (by omega)
    simp only [needs]
    omega
def WaLoop (F : Fr) (C : List Int) (vc : Value) (q q2 : Int) (m : Nat) (a : Act) (w' : World) : Prop :=
  ∃ k : Nat, m = C.length - k ∧ k ≤ C.length ∧ RepX F ⟨[(62, 0, .v (.int .i64 k)), (61, 0, .v (.int .i64 C.length)), (60, 0, .v vc), (12, 0, .v (.int .i64 (needs C k))), (5, 0, .v (.bool true)), (8, 0, .v (.int .i64 q)), (10, 0, .v (.int .i64 q2))], [], 0, 0, 84, [], [], []⟩ a w'

set_option maxRecDepth 100000 in
set_option maxHeartbeats 32000000 in
/-- LiveWaste. -/
theorem waste_ok (w : World) (v vm : Value) (d : Dev) (L : List Ext) (hL : RdZ (fun x => x < w.heap.size) w v d.Z) (hn : d.Z.length ≤ 1000000000000000) (hl : LenOK d.Z) (hM : RdE (fun x => x < w.heap.size) w vm L) (hnM : L.length ≤ 1000000000000000) : Calls Try.prog 5 (denL [.ag (devC d v), .v vm]).toArray w (fun ev w' => ev = .returned (.bool true) ∧ Below w.heap.size w w') := by
  obtain ⟨ad, cp, rfl⟩ := hL.slice
  obtain ⟨adm, cpm, rfl⟩ := hM.slice
  refine enter (F := frame0 w) Try.func5 rfl [.ag (devC d (.slice ad d.Z.length cp)), .v (.slice adm L.length cpm)] [] (by simp [Try.f5]) trivial (keeps0 w) fun a hr => ?_
  refine seg cfg5_ok mixed PanicFree.body 1000 [] [] hr (by first | trivial | exact HpRep.nil | assumption) (by kernel_rfl) fun s2 hs2 => ?_
  simp (maxSteps := 10000000) [SX.vc, SX.stop, SX.contS, SX.contB, SX.contW, SX.contR, SX.contD, SX.sxStep, SX.stepPure, SX.stepNew, SX.stepStore, SX.stepKeep, SX.guardIx, SX.evOp, SX.opd, SX.opds, SX.optOpd, SX.look, SX.putS, SX.gobs, SX.AllP, SX.leave, SX.lookC, SX.lookB, SX.lookT, SX.lookN, SX.findK, SX.evBuiltin, SX.ints, SX.foldI, SX.evBin, SX.evInt, SX.evStr, SX.evEq, SX.arith, SX.evLoad, SX.shapeUp, SX.evFieldAddr, SX.evField, SX.evIndexAddr, SX.evIndex, SX.evFill, SX.evBuild, SX.szs, SX.cellsV, SX.evNew, SX.evStore, SX.spliceL, SX.SV.cells, SX.evConv, SX.evSlice, SX.bnd, SX.evNil, SX.evUn, SX.evPick, SX.pickOpd, SX.popTo, SX.cnd, SX.env0, SX.TD.isAgg, SX.TD.isIface, SX.tails, SX.NotAgg, SX.evLookup, SX.evConvH, SX.evPtrEq, SX.isCells, SX.thaw, SX.frz, SX.fixB, SX.rootIx, SX.Froz, SX.frzStep, SX.fork, Go.Value.cells, Go.undef, cfg5, Try.f5, devC]
  refine ⟨by (unfold SX.Ob; first | trivial | omega | ((try simp only [SX.inK]); (try simp [SX.den, SX.IsU8, SX.AllP, *]); (try omega))), ?_⟩
  intro a1 w1 hr1 _
  refine post_call 8 [] hr1 (by first | exact wanted_none rfl | exact wanted_zero (hr1.env.same rfl rfl rfl rfl) rfl (by simp) | exact wanted_zero (hr1.env.same rfl rfl rfl rfl) rfl (by simp [*])) rfl (callable 8 Try.func8) (up_ok w1) ?_
  rintro e2 w2 ⟨rfl, hb2⟩
  refine ⟨_, rfl, ?_⟩
  have h2 := hr1.ret hb2 15 (.v (.bool true)) rfl _ (hr1.all.below hb2) (by simp) rfl
  refine seg cfg5_ok mixed PanicFree.body 1000 [] [] h2 (by first | trivial | exact HpRep.nil | assumption) (by kernel_rfl) fun s_ hs_ => ?_
  simp (maxSteps := 10000000) [SX.vc, SX.stop, SX.contS, SX.contB, SX.contW, SX.contR, SX.contD, SX.sxStep, SX.stepPure, SX.stepNew, SX.stepStore, SX.stepKeep, SX.guardIx, SX.evOp, SX.opd, SX.opds, SX.optOpd, SX.look, SX.putS, SX.gobs, SX.AllP, SX.leave, SX.lookC, SX.lookB, SX.lookT, SX.lookN, SX.findK, SX.evBuiltin, SX.ints, SX.foldI, SX.evBin, SX.evInt, SX.evStr, SX.evEq, SX.arith, SX.evLoad, SX.shapeUp, SX.evFieldAddr, SX.evField, SX.evIndexAddr, SX.evIndex, SX.evFill, SX.evBuild, SX.szs, SX.cellsV, SX.evNew, SX.evStore, SX.spliceL, SX.SV.cells, SX.evConv, SX.evSlice, SX.bnd, SX.evNil, SX.evUn, SX.evPick, SX.pickOpd, SX.popTo, SX.cnd, SX.env0, SX.TD.isAgg, SX.TD.isIface, SX.tails, SX.NotAgg, SX.evLookup, SX.evConvH, SX.evPtrEq, SX.isCells, SX.thaw, SX.frz, SX.fixB, SX.rootIx, SX.Froz, SX.frzStep, SX.fork, Go.Value.cells, Go.undef, cfg5, devC]
  refine ⟨by (unfold SX.Ob; first | trivial | omega | ((try simp only [SX.inK]); (try simp [SX.den, SX.IsU8, SX.AllP, *]); (try omega))), ?_⟩
  intro a3 w3 hr3 _
  refine post_call 9 [.ag [.v (.int .i64 d.cap), .v (.int .i64 d.op), .v (.int .i64 d.ac), .v (.slice ad d.Z.length cp)], .v (.slice adm L.length cpm)] hr3 (by first | exact wanted_none rfl | exact wanted_zero (hr3.env.same rfl rfl rfl rfl) rfl (by simp) | exact wanted_zero (hr3.env.same rfl rfl rfl rfl) rfl (by simp [*])) rfl (callable 9 Try.func9) (few_ok w3 _ d adm L.length cpm (hL.below hr3.keeps.toBelow) hn hl (by omega)) ?_
  rintro e4 w4 ⟨rfl, hb4⟩
  refine ⟨_, rfl, ?_⟩
  have h4 := hr3.ret hb4 18 (.v (.bool (decide (FewD d.Z L.length)))) rfl _ (hr3.all.below hb4) (by simp) rfl
  by_cases hF : FewD d.Z L.length
  rotate_left
  · refine seg cfg5_ok mixed PanicFree.body 1000 [true] [(20, true), (25, true)] h4 (by first | trivial | exact HpRep.nil | assumption) (by kernel_rfl) fun s_ hs_ => ?_
    simp (maxSteps := 10000000) [SX.vc, SX.stop, SX.contS, SX.contB, SX.contW, SX.contR, SX.contD, SX.sxStep, SX.stepPure, SX.stepNew, SX.stepStore, SX.stepKeep, SX.guardIx, SX.evOp, SX.opd, SX.opds, SX.optOpd, SX.look, SX.putS, SX.gobs, SX.AllP, SX.leave, SX.lookC, SX.lookB, SX.lookT, SX.lookN, SX.findK, SX.evBuiltin, SX.ints, SX.foldI, SX.evBin, SX.evInt, SX.evStr, SX.evEq, SX.arith, SX.evLoad, SX.shapeUp, SX.evFieldAddr, SX.evField, SX.evIndexAddr, SX.evIndex, SX.evFill, SX.evBuild, SX.szs, SX.cellsV, SX.evNew, SX.evStore, SX.spliceL, SX.SV.cells, SX.evConv, SX.evSlice, SX.bnd, SX.evNil, SX.evUn, SX.evPick, SX.pickOpd, SX.popTo, SX.cnd, SX.env0, SX.TD.isAgg, SX.TD.isIface, SX.tails, SX.NotAgg, SX.evLookup, SX.evConvH, SX.evPtrEq, SX.isCells, SX.thaw, SX.frz, SX.fixB, SX.rootIx, SX.Froz, SX.frzStep, SX.fork, Go.Value.cells, Go.undef, cfg5, hF]
    refine ⟨by (unfold SX.Ob; first | trivial | omega | ((try simp only [SX.inK]); (try simp [SX.den, SX.IsU8, SX.AllP, *]); (try omega))), ?_⟩
    intro a5 w5 hr5 _
    exact post_retn (end1 hr5 rfl rfl ⟨rfl, hr5.keeps.toBelow⟩).1
  have hm300 : L.length < 300 := hF.2.2
  refine seg cfg5_ok mixed PanicFree.body 1000 [] [(20, false)] h4 (by first | trivial | exact HpRep.nil | assumption) (by kernel_rfl) fun s_ hs_ => ?_
  simp (maxSteps := 10000000) [SX.vc, SX.stop, SX.contS, SX.contB, SX.contW, SX.contR, SX.contD, SX.sxStep, SX.stepPure, SX.stepNew, SX.stepStore, SX.stepKeep, SX.guardIx, SX.evOp, SX.opd, SX.opds, SX.optOpd, SX.look, SX.putS, SX.gobs, SX.AllP, SX.leave, SX.lookC, SX.lookB, SX.lookT, SX.lookN, SX.findK, SX.evBuiltin, SX.ints, SX.foldI, SX.evBin, SX.evInt, SX.evStr, SX.evEq, SX.arith, SX.evLoad, SX.shapeUp, SX.evFieldAddr, SX.evField, SX.evIndexAddr, SX.evIndex, SX.evFill, SX.evBuild, SX.szs, SX.cellsV, SX.evNew, SX.evStore, SX.spliceL, SX.SV.cells, SX.evConv, SX.evSlice, SX.bnd, SX.evNil, SX.evUn, SX.evPick, SX.pickOpd, SX.popTo, SX.cnd, SX.env0, SX.TD.isAgg, SX.TD.isIface, SX.tails, SX.NotAgg, SX.evLookup, SX.evConvH, SX.evPtrEq, SX.isCells, SX.thaw, SX.frz, SX.fixB, SX.rootIx, SX.Froz, SX.frzStep, SX.fork, Go.Value.cells, Go.undef, cfg5, hF, devC]
  refine ⟨by (unfold SX.Ob; first | trivial | omega | ((try simp only [SX.inK]); (try simp [SX.den, SX.IsU8, SX.AllP, *]); (try omega))), ?_⟩
  intro a5 w5 hr5 _
  refine post_call 14 [.ag [.v (.int .i64 d.cap), .v (.int .i64 d.op), .v (.int .i64 d.ac), .v (.slice ad d.Z.length cp)]] hr5 (by first | exact wanted_none rfl | exact wanted_zero (hr5.env.same rfl rfl rfl rfl) rfl (by simp) | exact wanted_zero (hr5.env.same rfl rfl rfl rfl) rfl (by simp [*])) rfl (callable 14 Try.func14) (check14_ok w5 _ d (hL.below hr5.keeps.toBelow) hn hl) ?_
  rintro e6 w6 ⟨rfl, hb6⟩
  refine ⟨_, rfl, ?_⟩
  have h6 := hr5.ret hb6 22 (.v (.int .i64 (devE d))) rfl _ (hr5.all.below hb6) (by simp) rfl
  by_cases hD : DevOK d
  rotate_left
  · have hd : devE d = 1 := if_neg hD
    refine seg cfg5_ok mixed PanicFree.body 1000 [true] [(20, false), (25, true)] h6 (by first | trivial | exact HpRep.nil | assumption) (by kernel_rfl) fun s_ hs_ => ?_
    simp (maxSteps := 10000000) [SX.vc, SX.stop, SX.contS, SX.contB, SX.contW, SX.contR, SX.contD, SX.sxStep, SX.stepPure, SX.stepNew, SX.stepStore, SX.stepKeep, SX.guardIx, SX.evOp, SX.opd, SX.opds, SX.optOpd, SX.look, SX.putS, SX.gobs, SX.AllP, SX.leave, SX.lookC, SX.lookB, SX.lookT, SX.lookN, SX.findK, SX.evBuiltin, SX.ints, SX.foldI, SX.evBin, SX.evInt, SX.evStr, SX.evEq, SX.arith, SX.evLoad, SX.shapeUp, SX.evFieldAddr, SX.evField, SX.evIndexAddr, SX.evIndex, SX.evFill, SX.evBuild, SX.szs, SX.cellsV, SX.evNew, SX.evStore, SX.spliceL, SX.SV.cells, SX.evConv, SX.evSlice, SX.bnd, SX.evNil, SX.evUn, SX.evPick, SX.pickOpd, SX.popTo, SX.cnd, SX.env0, SX.TD.isAgg, SX.TD.isIface, SX.tails, SX.NotAgg, SX.evLookup, SX.evConvH, SX.evPtrEq, SX.isCells, SX.thaw, SX.frz, SX.fixB, SX.rootIx, SX.Froz, SX.frzStep, SX.fork, Go.Value.cells, Go.undef, cfg5, hd]
    refine ⟨by (unfold SX.Ob; first | trivial | omega | ((try simp only [SX.inK]); (try simp [SX.den, SX.IsU8, SX.AllP, *]); (try omega))), ?_⟩
    intro a7 w7 hr7 _
    exact post_retn (end1 hr7 rfl rfl ⟨rfl, hr7.keeps.toBelow⟩).1
  have hd : devE d = 0 := if_pos hD
  have hz64 := hD.1.2.1
  refine seg cfg5_ok mixed PanicFree.body 1000 [] [(20, false), (25, false)] h6 (by first | trivial | exact HpRep.nil | assumption) (by kernel_rfl) fun s_ hs_ => ?_
  simp (maxSteps := 10000000) [SX.vc, SX.stop, SX.contS, SX.contB, SX.contW, SX.contR, SX.contD, SX.sxStep, SX.stepPure, SX.stepNew, SX.stepStore, SX.stepKeep, SX.guardIx, SX.evOp, SX.opd, SX.opds, SX.optOpd, SX.look, SX.putS, SX.gobs, SX.AllP, SX.leave, SX.lookC, SX.lookB, SX.lookT, SX.lookN, SX.findK, SX.evBuiltin, SX.ints, SX.foldI, SX.evBin, SX.evInt, SX.evStr, SX.evEq, SX.arith, SX.evLoad, SX.shapeUp, SX.evFieldAddr, SX.evField, SX.evIndexAddr, SX.evIndex, SX.evFill, SX.evBuild, SX.szs, SX.cellsV, SX.evNew, SX.evStore, SX.spliceL, SX.SV.cells, SX.evConv, SX.evSlice, SX.bnd, SX.evNil, SX.evUn, SX.evPick, SX.pickOpd, SX.popTo, SX.cnd, SX.env0, SX.TD.isAgg, SX.TD.isIface, SX.tails, SX.NotAgg, SX.evLookup, SX.evConvH, SX.evPtrEq, SX.isCells, SX.thaw, SX.frz, SX.fixB, SX.rootIx, SX.Froz, SX.frzStep, SX.fork, Go.Value.cells, Go.undef, cfg5, hd]
  refine ⟨by (unfold SX.Ob; first | trivial | omega | ((try simp only [SX.inK]); (try simp [SX.den, SX.IsU8, SX.AllP, *]); (try omega))), ?_⟩
  intro a7 w7 hr7 _
  refine post_call 15 [.v (.slice adm L.length cpm)] hr7 (by first | exact wanted_none rfl | exact wanted_zero (hr7.env.same rfl rfl rfl rfl) rfl (by simp) | exact wanted_zero (hr7.env.same rfl rfl rfl rfl) rfl (by simp [*])) rfl (callable 15 Try.func15) (rcheck_ok w7 _ L (hM.below hr7.keeps.toBelow) (by omega)) ?_
  rintro e8 w8 ⟨rfl, hb8⟩
  refine ⟨_, rfl, ?_⟩
  have h8 := hr7.ret hb8 27 (.v (.int .i64 (chkE L))) rfl _ (hr7.all.below hb8) (by simp) rfl
  by_cases hC : Chk L
  rotate_left
  · have hc : chkE L = 1 := if_neg hC
    refine seg cfg5_ok mixed PanicFree.body 1000 [true] [(20, false), (25, false)] h8 (by first | trivial | exact HpRep.nil | assumption) (by kernel_rfl) fun s_ hs_ => ?_
    simp (maxSteps := 10000000) [SX.vc, SX.stop, SX.contS, SX.contB, SX.contW, SX.contR, SX.contD, SX.sxStep, SX.stepPure, SX.stepNew, SX.stepStore, SX.stepKeep, SX.guardIx, SX.evOp, SX.opd, SX.opds, SX.optOpd, SX.look, SX.putS, SX.gobs, SX.AllP, SX.leave, SX.lookC, SX.lookB, SX.lookT, SX.lookN, SX.findK, SX.evBuiltin, SX.ints, SX.foldI, SX.evBin, SX.evInt, SX.evStr, SX.evEq, SX.arith, SX.evLoad, SX.shapeUp, SX.evFieldAddr, SX.evField, SX.evIndexAddr, SX.evIndex, SX.evFill, SX.evBuild, SX.szs, SX.cellsV, SX.evNew, SX.evStore, SX.spliceL, SX.SV.cells, SX.evConv, SX.evSlice, SX.bnd, SX.evNil, SX.evUn, SX.evPick, SX.pickOpd, SX.popTo, SX.cnd, SX.env0, SX.TD.isAgg, SX.TD.isIface, SX.tails, SX.NotAgg, SX.evLookup, SX.evConvH, SX.evPtrEq, SX.isCells, SX.thaw, SX.frz, SX.fixB, SX.rootIx, SX.Froz, SX.frzStep, SX.fork, Go.Value.cells, Go.undef, cfg5, hc]
    refine ⟨by (unfold SX.Ob; first | trivial | omega | ((try simp only [SX.inK]); (try simp [SX.den, SX.IsU8, SX.AllP, *]); (try omega))), ?_⟩
    intro a9 w9 hr9 _
    exact post_retn (end1 hr9 rfl rfl ⟨rfl, hr9.keeps.toBelow⟩).1
  have hc : chkE L = 0 := if_pos hC
  refine seg cfg5_ok mixed PanicFree.body 1000 [false] [(20, false), (25, false)] h8 (by first | trivial | exact HpRep.nil | assumption) (by kernel_rfl) fun s_ hs_ => ?_
  simp (maxSteps := 10000000) [SX.vc, SX.stop, SX.contS, SX.contB, SX.contW, SX.contR, SX.contD, SX.sxStep, SX.stepPure, SX.stepNew, SX.stepStore, SX.stepKeep, SX.guardIx, SX.evOp, SX.opd, SX.opds, SX.optOpd, SX.look, SX.putS, SX.gobs, SX.AllP, SX.leave, SX.lookC, SX.lookB, SX.lookT, SX.lookN, SX.findK, SX.evBuiltin, SX.ints, SX.foldI, SX.evBin, SX.evInt, SX.evStr, SX.evEq, SX.arith, SX.evLoad, SX.shapeUp, SX.evFieldAddr, SX.evField, SX.evIndexAddr, SX.evIndex, SX.evFill, SX.evBuild, SX.szs, SX.cellsV, SX.evNew, SX.evStore, SX.spliceL, SX.SV.cells, SX.evConv, SX.evSlice, SX.bnd, SX.evNil, SX.evUn, SX.evPick, SX.pickOpd, SX.popTo, SX.cnd, SX.env0, SX.TD.isAgg, SX.TD.isIface, SX.tails, SX.NotAgg, SX.evLookup, SX.evConvH, SX.evPtrEq, SX.isCells, SX.thaw, SX.frz, SX.fixB, SX.rootIx, SX.Froz, SX.frzStep, SX.fork, Go.Value.cells, Go.undef, cfg5, hc, devC]
  refine ⟨by (unfold SX.Ob; first | trivial | omega | ((try simp only [SX.inK]); (try simp [SX.den, SX.IsU8, SX.AllP, *]); (try omega))), ?_⟩
  intro a9 w9 hr9 _
  refine post_call 16 [.v (.slice adm L.length cpm), .v (.int .i64 d.Z.length)] hr9 (by first | exact wanted_none rfl | exact wanted_zero (hr9.env.same rfl rfl rfl rfl) rfl (by simp) | exact wanted_zero (hr9.env.same rfl rfl rfl rfl) rfl (by simp [*])) rfl (callable 16 Try.func16) (Count_ok w9 _ L d.Z.length (hM.below hr9.keeps.toBelow) (by omega) hC hz64) ?_
  rintro e10 w10 ⟨vc, rfl, hO10, hb10⟩
  refine ⟨_, rfl, ?_⟩
  have h10 := hr9.ret hb10 36 (.tu [.v vc, .v (.int .i64 0)]) rfl _ (hr9.all.below hb10) (by simp) rfl
  have k2 := SO.rep_lt hr9.all.1.1
  have hbc : ∀ j, j < (cnts L d.Z.length).length → 0 ≤ nth (0 : Int) (cnts L d.Z.length) j ∧ nth (0 : Int) (cnts L d.Z.length) j ≤ 1125899906842624 := fun j hj => by
    rw [cnts_len] at hj
    rw [nth_cnts hj]
    have := cntE_bound hC.may j
    omega
  have hsp := wst_split (Z := d.Z) (f := cntE L) (C := cnts L d.Z.length) d.Z.length fun j hj => nth_cnts hj
  obtain ⟨C, hCe⟩ : ∃ C, cnts L d.Z.length = C := ⟨_, rfl⟩
  have hCl : C.length = d.Z.length := by rw [← hCe, cnts_len]
  rw [hCe] at hO10 hbc hsp
  obtain ⟨adc, cpc, rfl⟩ := hO10.slice
  refine seg cfg5_ok mixed PanicFree.body 1000 [] [] h10.rebase (by first | trivial | exact HpRep.nil | assumption) (by kernel_rfl) fun s_ hs_ => ?_
  simp (maxSteps := 10000000) [SX.vc, SX.stop, SX.contS, SX.contB, SX.contW, SX.contR, SX.contD, SX.sxStep, SX.stepPure, SX.stepNew, SX.stepStore, SX.stepKeep, SX.guardIx, SX.evOp, SX.opd, SX.opds, SX.optOpd, SX.look, SX.putS, SX.gobs, SX.AllP, SX.leave, SX.lookC, SX.lookB, SX.lookT, SX.lookN, SX.findK, SX.evBuiltin, SX.ints, SX.foldI, SX.evBin, SX.evInt, SX.evStr, SX.evEq, SX.arith, SX.evLoad, SX.shapeUp, SX.evFieldAddr, SX.evField, SX.evIndexAddr, SX.evIndex, SX.evFill, SX.evBuild, SX.szs, SX.cellsV, SX.evNew, SX.evStore, SX.spliceL, SX.SV.cells, SX.evConv, SX.evSlice, SX.bnd, SX.evNil, SX.evUn, SX.evPick, SX.pickOpd, SX.popTo, SX.cnd, SX.env0, SX.TD.isAgg, SX.TD.isIface, SX.tails, SX.NotAgg, SX.evLookup, SX.evConvH, SX.evPtrEq, SX.isCells, SX.thaw, SX.frz, SX.fixB, SX.rootIx, SX.Froz, SX.frzStep, SX.fork, Go.Value.cells, Go.undef, cfg5, devC]
  refine ⟨by (unfold SX.Ob; first | trivial | omega | ((try simp only [SX.inK]); (try simp [SX.den, SX.IsU8, SX.AllP, *]); (try omega))), ?_⟩
  intro a11 w11 hr11' _
  have hO11 := hO10.keep hr11'.keeps (by simp [frameAt, mutB]; omega)
  have hr11 := h10.unbase hr11'
  have z11 : w.heap.size ≤ w11.heap.size := hr11.keeps.size
  have hL11 : RdZ (fun x => x < w11.heap.size) w11 (.slice ad d.Z.length cp) d.Z := (hL.below hr11.keeps.toBelow).mono fun x h _ => h
  have hW := Waste_ok (P := fun _ => True) w11 (.slice ad d.Z.length cp) (.slice adm L.length cpm) d L hL11 hl hD (hM.below hr11.keeps.toBelow) (by omega) hC
  obtain ⟨q, hq⟩ : ∃ q, maxZ (wst d.Z (cntE L) d.Z.length) = q := ⟨_, rfl⟩
  rw [hq] at hW
  refine post_call 17 [.ag [.v (.int .i64 d.cap), .v (.int .i64 d.op), .v (.int .i64 d.ac), .v (.slice ad d.Z.length cp)], .v (.slice adm L.length cpm)] hr11 (by first | exact wanted_none rfl | exact wanted_zero (hr11.env.same rfl rfl rfl rfl) rfl (by simp) | exact wanted_zero (hr11.env.same rfl rfl rfl rfl) rfl (by simp [*])) rfl (callable 17 Try.func17) (hW) ?_
  rintro e12 w12 ⟨rfl, hb12⟩
  refine ⟨_, rfl, ?_⟩
  have h12 := hr11.ret hb12 42 (.tu [.v (.int .i64 q), .v (.int .i64 0)]) rfl _ (hr11.all.below hb12) (by simp) rfl
  have hO12 := hO11.below hb12
  refine seg cfg5_ok mixed PanicFree.body 1000 [] [] h12.rebase (by first | trivial | exact HpRep.nil | assumption) (by kernel_rfl) fun s_ hs_ => ?_
  simp (maxSteps := 10000000) [SX.vc, SX.stop, SX.contS, SX.contB, SX.contW, SX.contR, SX.contD, SX.sxStep, SX.stepPure, SX.stepNew, SX.stepStore, SX.stepKeep, SX.guardIx, SX.evOp, SX.opd, SX.opds, SX.optOpd, SX.look, SX.putS, SX.gobs, SX.AllP, SX.leave, SX.lookC, SX.lookB, SX.lookT, SX.lookN, SX.findK, SX.evBuiltin, SX.ints, SX.foldI, SX.evBin, SX.evInt, SX.evStr, SX.evEq, SX.arith, SX.evLoad, SX.shapeUp, SX.evFieldAddr, SX.evField, SX.evIndexAddr, SX.evIndex, SX.evFill, SX.evBuild, SX.szs, SX.cellsV, SX.evNew, SX.evStore, SX.spliceL, SX.SV.cells, SX.evConv, SX.evSlice, SX.bnd, SX.evNil, SX.evUn, SX.evPick, SX.pickOpd, SX.popTo, SX.cnd, SX.env0, SX.TD.isAgg, SX.TD.isIface, SX.tails, SX.NotAgg, SX.evLookup, SX.evConvH, SX.evPtrEq, SX.isCells, SX.thaw, SX.frz, SX.fixB, SX.rootIx, SX.Froz, SX.frzStep, SX.fork, Go.Value.cells, Go.undef, cfg5, devC]
  refine ⟨by (unfold SX.Ob; first | trivial | omega | ((try simp only [SX.inK]); (try simp [SX.den, SX.IsU8, SX.AllP, *]); (try omega))), ?_⟩
  intro a13 w13 hr13' _
  have hO13 := hO12.keep hr13'.keeps (by simp [frameAt, mutB]; omega)
  have hr13 := h12.unbase hr13'
  have hL13 : RdZ (fun x => x < w13.heap.size) w13 (.slice ad d.Z.length cp) d.Z := (hL.below hr13.keeps.toBelow).mono fun x h _ => h
  have hW2 := Waste_ok (P := fun _ => True) w13 (.slice ad d.Z.length cp) (.slice none 0 0) d [] hL13 hl hD (.inl ⟨rfl, _, _, rfl⟩ : RdE (fun _ => True) w13 _ []) (by simp) (by decide)
  have hww := wst_whole' (Z := d.Z) d.Z.length (Nat.le_refl _)
  have hwe : maxZ (wst d.Z (cntE []) d.Z.length) = wst d.Z (fun _ => 0) d.Z.length := by
    have h1 : cntE [] = fun _ => 0 := rfl
    rw [h1, maxZ, if_neg]
    omega
  have hwb := (wst_bound (Z := d.Z) (f := fun _ => 0) (fun z hz => by
    have h := hD.2.2.2 z hz
    have hcap := hD.1.2.2.2.1
    unfold ZonOK at h
    omega) (fun j => by omega) d.Z.length (Nat.le_refl _)).2
  rw [hwe] at hW2
  obtain ⟨q2, hq2⟩ : ∃ q, wst d.Z (fun _ => 0) d.Z.length = q := ⟨_, rfl⟩
  rw [hq2] at hW2 hww hwb hsp
  refine post_call 17 [.ag [.v (.int .i64 d.cap), .v (.int .i64 d.op), .v (.int .i64 d.ac), .v (.slice ad d.Z.length cp)], .v (.slice none 0 0)] hr13 (by first | exact wanted_none rfl | exact wanted_zero (hr13.env.same rfl rfl rfl rfl) rfl (by simp) | exact wanted_zero (hr13.env.same rfl rfl rfl rfl) rfl (by simp [*])) rfl (callable 17 Try.func17) (hW2) ?_
  rintro e14 w14 ⟨rfl, hb14⟩
  refine ⟨_, rfl, ?_⟩
  have h14 := hr13.ret hb14 47 (.tu [.v (.int .i64 q2), .v (.int .i64 0)]) rfl _ (hr13.all.below hb14) (by simp) rfl
  have hO14 := hO13.below hb14
  refine seg cfg5_ok mixed PanicFree.body 1000 [false] [(52, false), (56, false)] h14.rebase (by first | trivial | exact HpRep.nil | assumption) (by kernel_rfl) fun s_ hs_ => ?_
  simp (maxSteps := 10000000) [SX.vc, SX.stop, SX.contS, SX.contB, SX.contW, SX.contR, SX.contD, SX.sxStep, SX.stepPure, SX.stepNew, SX.stepStore, SX.stepKeep, SX.guardIx, SX.evOp, SX.opd, SX.opds, SX.optOpd, SX.look, SX.putS, SX.gobs, SX.AllP, SX.leave, SX.lookC, SX.lookB, SX.lookT, SX.lookN, SX.findK, SX.evBuiltin, SX.ints, SX.foldI, SX.evBin, SX.evInt, SX.evStr, SX.evEq, SX.arith, SX.evLoad, SX.shapeUp, SX.evFieldAddr, SX.evField, SX.evIndexAddr, SX.evIndex, SX.evFill, SX.evBuild, SX.szs, SX.cellsV, SX.evNew, SX.evStore, SX.spliceL, SX.SV.cells, SX.evConv, SX.evSlice, SX.bnd, SX.evNil, SX.evUn, SX.evPick, SX.pickOpd, SX.popTo, SX.cnd, SX.env0, SX.TD.isAgg, SX.TD.isIface, SX.tails, SX.NotAgg, SX.evLookup, SX.evConvH, SX.evPtrEq, SX.isCells, SX.thaw, SX.frz, SX.fixB, SX.rootIx, SX.Froz, SX.frzStep, SX.fork, Go.Value.cells, Go.undef, cfg5, devC]
  refine ⟨by (unfold SX.Ob; first | trivial | omega | ((try simp only [SX.inK]); (try simp [SX.den, SX.IsU8, SX.AllP, *]); (try omega))), ?_⟩
  intro a15 w15 hr15' _
  have hO15 := hO14.keep hr15'.keeps (by simp [frameAt, mutB]; omega)
  have hr15 := h14.unbase hr15'
  refine post_loop (WaLoop _ C (.slice adc C.length cpc) q q2) C.length ⟨0, rfl, by omega, hr15.rebase.re (by simp [envTo, SX.look, needs]) trivial rfl rfl⟩ ?_
  rintro m aq w16 ⟨k, rfl, hk, hr16⟩
  have hO16 := (hO15.keep hr16.keeps (by simp [frameAt, mutB]; omega))
  have hnb := needs_bound hbc
  by_cases hlt : k < C.length
  · obtain ⟨b, o0, cap, u, fz, hP, hv, hrep⟩ := hO16.opn hlt
    cases hv
    obtain ⟨x, hx⟩ : ∃ x, nth (0 : Int) C k = x := ⟨_, rfl⟩
    have hb0 := hnb k hk
    have hb1 := hnb (k + 1) hlt
    have hstep : needs C (k + 1) = needs C k + x := by simp only [needs, hx]
    rw [hstep] at hb1
    obtain ⟨s, hs⟩ : ∃ s, needs C k = s := ⟨_, rfl⟩
    rw [hs] at hb0 hb1 hstep hr16
    have hcl : (C.length : Int) ≤ 64 := by omega
    have h17 := (hr16.top 60 (.sl 0 b o0 0 C.length cpc 1) rfl (by simp [den])).see _ (HpAll.one hrep)
    refine seg cfg5_ok mixed PanicFree.body 1000 [true] [] h17 (by first | trivial | exact HpRep.nil | assumption) (by kernel_rfl) fun s_ hs_ => ?_
    simp (maxSteps := 10000000) [SX.vc, SX.stop, SX.contS, SX.contB, SX.contW, SX.contR, SX.contD, SX.sxStep, SX.stepPure, SX.stepNew, SX.stepStore, SX.stepKeep, SX.guardIx, SX.evOp, SX.opd, SX.opds, SX.optOpd, SX.look, SX.putS, SX.gobs, SX.AllP, SX.leave, SX.lookC, SX.lookB, SX.lookT, SX.lookN, SX.findK, SX.evBuiltin, SX.ints, SX.foldI, SX.evBin, SX.evInt, SX.evStr, SX.evEq, SX.arith, SX.evLoad, SX.shapeUp, SX.evFieldAddr, SX.evField, SX.evIndexAddr, SX.evIndex, SX.evFill, SX.evBuild, SX.szs, SX.cellsV, SX.evNew, SX.evStore, SX.spliceL, SX.SV.cells, SX.evConv, SX.evSlice, SX.bnd, SX.evNil, SX.evUn, SX.evPick, SX.pickOpd, SX.popTo, SX.cnd, SX.env0, SX.TD.isAgg, SX.TD.isIface, SX.tails, SX.NotAgg, SX.evLookup, SX.evConvH, SX.evPtrEq, SX.isCells, SX.thaw, SX.frz, SX.fixB, SX.rootIx, SX.Froz, SX.frzStep, SX.fork, Go.Value.cells, Go.undef, cfg5, intC, hx]
    refine ⟨by (unfold SX.Ob; first | trivial | omega | ((try simp only [SX.inK]); (try simp [SX.den, SX.IsU8, SX.AllP, *]); (try omega))), ?_⟩
    intro a18 w18 hr18 _
    exact post_rnd (C.length - (k + 1)) (by omega) ⟨k + 1, rfl, by omega, hr18.re (by rw [hstep]; simp [envTo, SX.look, den]) trivial rfl rfl⟩
  obtain rfl : k = C.length := by omega
  obtain ⟨s, hs⟩ : ∃ s, needs C C.length = s := ⟨_, rfl⟩
  have hb0 := hnb C.length (Nat.le_refl _)
  rw [← hCl] at hsp
  rw [hs] at hr16 hb0 hsp
  have hqs : (if q2 - s < 0 then 0 else q2 - s) = q := by
    rw [← hq, ← hCl, hsp]
    rfl
  have hle : q ≤ q2 := by
    rw [← hqs]
    split <;> omega
  have hcl : (C.length : Int) ≤ 64 := by omega
  refine seg cfg5_ok mixed PanicFree.body 1000 [false] [(71, true), (79, true)] hr16 (by first | trivial | exact HpRep.nil | assumption) (by kernel_rfl) fun s_ hs_ => ?_
  simp (maxSteps := 10000000) [SX.vc, SX.stop, SX.contS, SX.contB, SX.contW, SX.contR, SX.contD, SX.sxStep, SX.stepPure, SX.stepNew, SX.stepStore, SX.stepKeep, SX.guardIx, SX.evOp, SX.opd, SX.opds, SX.optOpd, SX.look, SX.putS, SX.gobs, SX.AllP, SX.leave, SX.lookC, SX.lookB, SX.lookT, SX.lookN, SX.findK, SX.evBuiltin, SX.ints, SX.foldI, SX.evBin, SX.evInt, SX.evStr, SX.evEq, SX.arith, SX.evLoad, SX.shapeUp, SX.evFieldAddr, SX.evField, SX.evIndexAddr, SX.evIndex, SX.evFill, SX.evBuild, SX.szs, SX.cellsV, SX.evNew, SX.evStore, SX.spliceL, SX.SV.cells, SX.evConv, SX.evSlice, SX.bnd, SX.evNil, SX.evUn, SX.evPick, SX.pickOpd, SX.popTo, SX.cnd, SX.env0, SX.TD.isAgg, SX.TD.isIface, SX.tails, SX.NotAgg, SX.evLookup, SX.evConvH, SX.evPtrEq, SX.isCells, SX.thaw, SX.frz, SX.fixB, SX.rootIx, SX.Froz, SX.frzStep, SX.fork, Go.Value.cells, Go.undef, cfg5, hqs, hle]
  refine ⟨by (unfold SX.Ob; first | trivial | omega | ((try simp only [SX.inK]); (try simp [SX.den, SX.IsU8, SX.AllP, *]); (try omega))), ?_⟩
  intro a18 w18 hr18 _
  have hr19 := hr15.unbase hr18
  exact post_retn (end1 hr19 rfl rfl ⟨rfl, hr19.keeps.toBelow⟩).1
end Go.Proofs
