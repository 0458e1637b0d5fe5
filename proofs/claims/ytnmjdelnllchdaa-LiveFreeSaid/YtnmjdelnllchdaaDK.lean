/- Live: LiveFree walked. -/
import Derived.Test.YtnmjdelnllchdaaDJ
namespace Go.Proofs
set_option linter.unusedVariables false
set_option linter.unusedSimpArgs false
open Go Go.SX Go.RowKit

theorem mem_freeK {Z : List Zon} {K : List Int} {n k : Nat} (h : k < n) : (k : Int) ∈ freeK Z K n ↔ freeP Z K k = true := by
  unfold freeK
  rw [List.mem_map]
  constructor
  · rintro ⟨i, hi, he⟩
    obtain rfl : i = k := by omega
    exact (List.mem_filter.1 hi).2
  · intro h1
    exact ⟨k, List.mem_filter.2 ⟨List.mem_range.2 h, h1⟩, rfl⟩
theorem freeK_lt (Z : List Zon) (K : List Int) (n : Nat) : (freeK Z K n).Pairwise (· < ·) := by
  unfold freeK
  rw [List.pairwise_map]
  exact (List.Pairwise.sublist List.filter_sublist List.pairwise_lt_range).imp fun h => by simpa using h
theorem wst_whole {Z : List Zon} : ∀ k, k ≤ Z.length → 0 ≤ wst Z (fun _ => 0) k
  | 0, _ => by simp [wst]
  | k + 1, h => by
    have := wst_whole (Z := Z) k (by omega)
    have h6 : 0 ≤ whl (nth zon0 Z k) := by unfold whl; omega
    simp only [wst]
    omega

def FrLoop1 (F : Fr) (d : Dev) (s2 : Nat) (vz vo v2 : Value) (m : Nat) (a : Act) (w' : World) : Prop :=
  ∃ k : Nat, m = d.Z.length - k ∧ k ≤ d.Z.length ∧ RepX F ⟨[(36, 0, .v (.int .i64 k)), (35, 0, .v (.int .i64 d.Z.length)), (34, 0, .v vz), (6, 0, .v vo), (1, 0, .v v2), (2, 0, .ptr 0 s2 0), (5, 0, .v (.bool true))], [(s2, false, .cells (devC d vz) 24)], 0, 0, 104, [], [], []⟩ a w'
def FrLoop2 (F : Fr) (d : Dev) (n s2 : Nat) (vz vo : Value) (m : Nat) (a : Act) (w' : World) : Prop :=
  ∃ k : Nat, m = n - k ∧ k ≤ n ∧ RepX F ⟨[(57, 0, .v (.int .i64 k)), (56, 0, .v (.int .i64 n)), (6, 0, .v vo), (2, 0, .ptr 0 s2 0), (5, 0, .v (.bool true))], [(s2, false, .cells (devC d vz) 24)], 0, 0, 104, [], [], []⟩ a w'
def FrLoop3 (F : Fr) (d : Dev) (q : Int) (vz : Value) (m : Nat) (a : Act) (w' : World) : Prop :=
  ∃ k : Nat, m = d.Z.length - k ∧ k ≤ d.Z.length ∧ RepX F ⟨[(83, 0, .v (.int .i64 k)), (82, 0, .v (.int .i64 d.Z.length)), (81, 0, .v vz), (12, 0, .v (.int .i64 (wst d.Z (fun _ => 0) k))), (5, 0, .v (.bool true)), (10, 0, .v (.int .i64 q)), (11, 0, .v (.int .i64 0))], [], 0, 0, 104, [], [], []⟩ a w'

set_option maxRecDepth 100000 in
set_option maxHeartbeats 32000000 in
/-- LiveFree. -/
theorem free_ok (w : World) (v v2 : Value) (d : Dev) (K : List Int) (hL : RdZ (fun x => x < w.heap.size) w v d.Z) (hn : d.Z.length ≤ 1000000000000000) (hl : LenOK d.Z) (hK : RdI (fun x => x < w.heap.size) w v2 K) (hnK : K.length ≤ 1000000000000000) : Calls Try.prog 6 (denL [.ag (devC d v), .v v2]).toArray w (fun ev w' => ev = .returned (.bool true) ∧ Below w.heap.size w w') := by
  obtain ⟨ad, cp, rfl⟩ := hL.slice
  obtain ⟨adk, cpk, rfl⟩ := hK.slice
  refine enter (F := frame0 w) Try.func6 rfl [.ag (devC d (.slice ad d.Z.length cp)), .v (.slice adk K.length cpk)] [] (by simp [Try.f6]) trivial (keeps0 w) fun a hr => ?_
  refine seg cfg6_ok mixed PanicFree.body 1000 [] [] hr (by first | trivial | exact HpRep.nil | assumption) (by kernel_rfl) fun s2 hs2 => ?_
  simp (maxSteps := 10000000) [SX.vc, SX.stop, SX.contS, SX.contB, SX.contW, SX.contR, SX.contD, SX.sxStep, SX.stepPure, SX.stepNew, SX.stepStore, SX.stepKeep, SX.guardIx, SX.evOp, SX.opd, SX.opds, SX.optOpd, SX.look, SX.putS, SX.gobs, SX.AllP, SX.leave, SX.lookC, SX.lookB, SX.lookT, SX.lookN, SX.findK, SX.evBuiltin, SX.ints, SX.foldI, SX.evBin, SX.evInt, SX.evStr, SX.evEq, SX.arith, SX.evLoad, SX.shapeUp, SX.evFieldAddr, SX.evField, SX.evIndexAddr, SX.evIndex, SX.evFill, SX.evBuild, SX.szs, SX.cellsV, SX.evNew, SX.evStore, SX.spliceL, SX.SV.cells, SX.evConv, SX.evSlice, SX.bnd, SX.evNil, SX.evUn, SX.evPick, SX.pickOpd, SX.popTo, SX.cnd, SX.env0, SX.TD.isAgg, SX.TD.isIface, SX.tails, SX.NotAgg, SX.evLookup, SX.evConvH, SX.evPtrEq, SX.isCells, SX.thaw, SX.frz, SX.fixB, SX.rootIx, SX.Froz, SX.frzStep, SX.fork, Go.Value.cells, Go.undef, cfg6, Try.f6, devC]
  refine ⟨by (unfold SX.Ob; first | trivial | omega | ((try simp only [SX.inK]); (try simp [SX.den, SX.IsU8, SX.AllP, *]); (try omega))), ?_⟩
  intro a1 w1 hr1 _
  refine post_call 8 [] hr1 (by first | exact wanted_none rfl | exact wanted_zero (hr1.env.same rfl rfl rfl rfl) rfl (by simp) | exact wanted_zero (hr1.env.same rfl rfl rfl rfl) rfl (by simp [*])) rfl (callable 8 Try.func8) (up_ok w1) ?_
  rintro e2 w2 ⟨rfl, hb2⟩
  refine ⟨_, rfl, ?_⟩
  have h2 := hr1.ret hb2 15 (.v (.bool true)) rfl _ (hr1.all.below hb2) (by simp) rfl
  refine seg cfg6_ok mixed PanicFree.body 1000 [] [] h2 (by first | trivial | exact HpRep.nil | assumption) (by kernel_rfl) fun s_ hs_ => ?_
  simp (maxSteps := 10000000) [SX.vc, SX.stop, SX.contS, SX.contB, SX.contW, SX.contR, SX.contD, SX.sxStep, SX.stepPure, SX.stepNew, SX.stepStore, SX.stepKeep, SX.guardIx, SX.evOp, SX.opd, SX.opds, SX.optOpd, SX.look, SX.putS, SX.gobs, SX.AllP, SX.leave, SX.lookC, SX.lookB, SX.lookT, SX.lookN, SX.findK, SX.evBuiltin, SX.ints, SX.foldI, SX.evBin, SX.evInt, SX.evStr, SX.evEq, SX.arith, SX.evLoad, SX.shapeUp, SX.evFieldAddr, SX.evField, SX.evIndexAddr, SX.evIndex, SX.evFill, SX.evBuild, SX.szs, SX.cellsV, SX.evNew, SX.evStore, SX.spliceL, SX.SV.cells, SX.evConv, SX.evSlice, SX.bnd, SX.evNil, SX.evUn, SX.evPick, SX.pickOpd, SX.popTo, SX.cnd, SX.env0, SX.TD.isAgg, SX.TD.isIface, SX.tails, SX.NotAgg, SX.evLookup, SX.evConvH, SX.evPtrEq, SX.isCells, SX.thaw, SX.frz, SX.fixB, SX.rootIx, SX.Froz, SX.frzStep, SX.fork, Go.Value.cells, Go.undef, cfg6, devC]
  refine ⟨by (unfold SX.Ob; first | trivial | omega | ((try simp only [SX.inK]); (try simp [SX.den, SX.IsU8, SX.AllP, *]); (try omega))), ?_⟩
  intro a3 w3 hr3 _
  refine post_call 9 [.ag [.v (.int .i64 d.cap), .v (.int .i64 d.op), .v (.int .i64 d.ac), .v (.slice ad d.Z.length cp)], .v (.slice none 0 0)] hr3 (by first | exact wanted_none rfl | exact wanted_zero (hr3.env.same rfl rfl rfl rfl) rfl (by simp) | exact wanted_zero (hr3.env.same rfl rfl rfl rfl) rfl (by simp [*])) rfl (callable 9 Try.func9) (few_ok w3 _ d none 0 0 (hL.below hr3.keeps.toBelow) hn hl (by omega)) ?_
  rintro e4 w4 ⟨rfl, hb4⟩
  refine ⟨_, rfl, ?_⟩
  have h4 := hr3.ret hb4 17 (.v (.bool (decide (FewD d.Z 0)))) rfl _ (hr3.all.below hb4) (by simp) rfl
  by_cases hF : FewD d.Z 0
  rotate_left
  · refine seg cfg6_ok mixed PanicFree.body 1000 [true] [(19, true), (24, true)] h4 (by first | trivial | exact HpRep.nil | assumption) (by kernel_rfl) fun s_ hs_ => ?_
    simp (maxSteps := 10000000) [SX.vc, SX.stop, SX.contS, SX.contB, SX.contW, SX.contR, SX.contD, SX.sxStep, SX.stepPure, SX.stepNew, SX.stepStore, SX.stepKeep, SX.guardIx, SX.evOp, SX.opd, SX.opds, SX.optOpd, SX.look, SX.putS, SX.gobs, SX.AllP, SX.leave, SX.lookC, SX.lookB, SX.lookT, SX.lookN, SX.findK, SX.evBuiltin, SX.ints, SX.foldI, SX.evBin, SX.evInt, SX.evStr, SX.evEq, SX.arith, SX.evLoad, SX.shapeUp, SX.evFieldAddr, SX.evField, SX.evIndexAddr, SX.evIndex, SX.evFill, SX.evBuild, SX.szs, SX.cellsV, SX.evNew, SX.evStore, SX.spliceL, SX.SV.cells, SX.evConv, SX.evSlice, SX.bnd, SX.evNil, SX.evUn, SX.evPick, SX.pickOpd, SX.popTo, SX.cnd, SX.env0, SX.TD.isAgg, SX.TD.isIface, SX.tails, SX.NotAgg, SX.evLookup, SX.evConvH, SX.evPtrEq, SX.isCells, SX.thaw, SX.frz, SX.fixB, SX.rootIx, SX.Froz, SX.frzStep, SX.fork, Go.Value.cells, Go.undef, cfg6, hF]
    refine ⟨by (unfold SX.Ob; first | trivial | omega | ((try simp only [SX.inK]); (try simp [SX.den, SX.IsU8, SX.AllP, *]); (try omega))), ?_⟩
    intro a5 w5 hr5 _
    exact post_retn (end1 hr5 rfl rfl ⟨rfl, hr5.keeps.toBelow⟩).1
  by_cases hK1 : 100 < (K.length : Int)
  · refine seg cfg6_ok mixed PanicFree.body 1000 [true] [(19, false), (24, true)] h4 (by first | trivial | exact HpRep.nil | assumption) (by kernel_rfl) fun s_ hs_ => ?_
    simp (maxSteps := 10000000) [SX.vc, SX.stop, SX.contS, SX.contB, SX.contW, SX.contR, SX.contD, SX.sxStep, SX.stepPure, SX.stepNew, SX.stepStore, SX.stepKeep, SX.guardIx, SX.evOp, SX.opd, SX.opds, SX.optOpd, SX.look, SX.putS, SX.gobs, SX.AllP, SX.leave, SX.lookC, SX.lookB, SX.lookT, SX.lookN, SX.findK, SX.evBuiltin, SX.ints, SX.foldI, SX.evBin, SX.evInt, SX.evStr, SX.evEq, SX.arith, SX.evLoad, SX.shapeUp, SX.evFieldAddr, SX.evField, SX.evIndexAddr, SX.evIndex, SX.evFill, SX.evBuild, SX.szs, SX.cellsV, SX.evNew, SX.evStore, SX.spliceL, SX.SV.cells, SX.evConv, SX.evSlice, SX.bnd, SX.evNil, SX.evUn, SX.evPick, SX.pickOpd, SX.popTo, SX.cnd, SX.env0, SX.TD.isAgg, SX.TD.isIface, SX.tails, SX.NotAgg, SX.evLookup, SX.evConvH, SX.evPtrEq, SX.isCells, SX.thaw, SX.frz, SX.fixB, SX.rootIx, SX.Froz, SX.frzStep, SX.fork, Go.Value.cells, Go.undef, cfg6, hF, hK1]
    refine ⟨by (unfold SX.Ob; first | trivial | omega | ((try simp only [SX.inK]); (try simp [SX.den, SX.IsU8, SX.AllP, *]); (try omega))), ?_⟩
    intro a5 w5 hr5 _
    exact post_retn (end1 hr5 rfl rfl ⟨rfl, hr5.keeps.toBelow⟩).1
  refine seg cfg6_ok mixed PanicFree.body 1000 [] [(19, false), (24, false)] h4 (by first | trivial | exact HpRep.nil | assumption) (by kernel_rfl) fun s_ hs_ => ?_
  simp (maxSteps := 10000000) [SX.vc, SX.stop, SX.contS, SX.contB, SX.contW, SX.contR, SX.contD, SX.sxStep, SX.stepPure, SX.stepNew, SX.stepStore, SX.stepKeep, SX.guardIx, SX.evOp, SX.opd, SX.opds, SX.optOpd, SX.look, SX.putS, SX.gobs, SX.AllP, SX.leave, SX.lookC, SX.lookB, SX.lookT, SX.lookN, SX.findK, SX.evBuiltin, SX.ints, SX.foldI, SX.evBin, SX.evInt, SX.evStr, SX.evEq, SX.arith, SX.evLoad, SX.shapeUp, SX.evFieldAddr, SX.evField, SX.evIndexAddr, SX.evIndex, SX.evFill, SX.evBuild, SX.szs, SX.cellsV, SX.evNew, SX.evStore, SX.spliceL, SX.SV.cells, SX.evConv, SX.evSlice, SX.bnd, SX.evNil, SX.evUn, SX.evPick, SX.pickOpd, SX.popTo, SX.cnd, SX.env0, SX.TD.isAgg, SX.TD.isIface, SX.tails, SX.NotAgg, SX.evLookup, SX.evConvH, SX.evPtrEq, SX.isCells, SX.thaw, SX.frz, SX.fixB, SX.rootIx, SX.Froz, SX.frzStep, SX.fork, Go.Value.cells, Go.undef, cfg6, hF, hK1, devC]
  refine ⟨by (unfold SX.Ob; first | trivial | omega | ((try simp only [SX.inK]); (try simp [SX.den, SX.IsU8, SX.AllP, *]); (try omega))), ?_⟩
  intro a5 w5 hr5 _
  refine post_call 14 [.ag [.v (.int .i64 d.cap), .v (.int .i64 d.op), .v (.int .i64 d.ac), .v (.slice ad d.Z.length cp)]] hr5 (by first | exact wanted_none rfl | exact wanted_zero (hr5.env.same rfl rfl rfl rfl) rfl (by simp) | exact wanted_zero (hr5.env.same rfl rfl rfl rfl) rfl (by simp [*])) rfl (callable 14 Try.func14) (check14_ok w5 _ d (hL.below hr5.keeps.toBelow) hn hl) ?_
  rintro e6 w6 ⟨rfl, hb6⟩
  refine ⟨_, rfl, ?_⟩
  have h6 := hr5.ret hb6 26 (.v (.int .i64 (devE d))) rfl _ (hr5.all.below hb6) (by simp) rfl
  by_cases hD : DevOK d
  rotate_left
  · have hd : devE d = 1 := if_neg hD
    refine seg cfg6_ok mixed PanicFree.body 1000 [true] [(19, false), (24, false)] h6 (by first | trivial | exact HpRep.nil | assumption) (by kernel_rfl) fun s_ hs_ => ?_
    simp (maxSteps := 10000000) [SX.vc, SX.stop, SX.contS, SX.contB, SX.contW, SX.contR, SX.contD, SX.sxStep, SX.stepPure, SX.stepNew, SX.stepStore, SX.stepKeep, SX.guardIx, SX.evOp, SX.opd, SX.opds, SX.optOpd, SX.look, SX.putS, SX.gobs, SX.AllP, SX.leave, SX.lookC, SX.lookB, SX.lookT, SX.lookN, SX.findK, SX.evBuiltin, SX.ints, SX.foldI, SX.evBin, SX.evInt, SX.evStr, SX.evEq, SX.arith, SX.evLoad, SX.shapeUp, SX.evFieldAddr, SX.evField, SX.evIndexAddr, SX.evIndex, SX.evFill, SX.evBuild, SX.szs, SX.cellsV, SX.evNew, SX.evStore, SX.spliceL, SX.SV.cells, SX.evConv, SX.evSlice, SX.bnd, SX.evNil, SX.evUn, SX.evPick, SX.pickOpd, SX.popTo, SX.cnd, SX.env0, SX.TD.isAgg, SX.TD.isIface, SX.tails, SX.NotAgg, SX.evLookup, SX.evConvH, SX.evPtrEq, SX.isCells, SX.thaw, SX.frz, SX.fixB, SX.rootIx, SX.Froz, SX.frzStep, SX.fork, Go.Value.cells, Go.undef, cfg6, hd]
    refine ⟨by (unfold SX.Ob; first | trivial | omega | ((try simp only [SX.inK]); (try simp [SX.den, SX.IsU8, SX.AllP, *]); (try omega))), ?_⟩
    intro a7 w7 hr7 _
    exact post_retn (end1 hr7 rfl rfl ⟨rfl, hr7.keeps.toBelow⟩).1
  have hd : devE d = 0 := if_pos hD
  have hz64 := hD.1.2.1
  refine seg cfg6_ok mixed PanicFree.body 1000 [false] [(19, false), (24, false)] h6 (by first | trivial | exact HpRep.nil | assumption) (by kernel_rfl) fun s_ hs_ => ?_
  simp (maxSteps := 10000000) [SX.vc, SX.stop, SX.contS, SX.contB, SX.contW, SX.contR, SX.contD, SX.sxStep, SX.stepPure, SX.stepNew, SX.stepStore, SX.stepKeep, SX.guardIx, SX.evOp, SX.opd, SX.opds, SX.optOpd, SX.look, SX.putS, SX.gobs, SX.AllP, SX.leave, SX.lookC, SX.lookB, SX.lookT, SX.lookN, SX.findK, SX.evBuiltin, SX.ints, SX.foldI, SX.evBin, SX.evInt, SX.evStr, SX.evEq, SX.arith, SX.evLoad, SX.shapeUp, SX.evFieldAddr, SX.evField, SX.evIndexAddr, SX.evIndex, SX.evFill, SX.evBuild, SX.szs, SX.cellsV, SX.evNew, SX.evStore, SX.spliceL, SX.SV.cells, SX.evConv, SX.evSlice, SX.bnd, SX.evNil, SX.evUn, SX.evPick, SX.pickOpd, SX.popTo, SX.cnd, SX.env0, SX.TD.isAgg, SX.TD.isIface, SX.tails, SX.NotAgg, SX.evLookup, SX.evConvH, SX.evPtrEq, SX.isCells, SX.thaw, SX.frz, SX.fixB, SX.rootIx, SX.Froz, SX.frzStep, SX.fork, Go.Value.cells, Go.undef, cfg6, hd, devC]
  refine ⟨by (unfold SX.Ob; first | trivial | omega | ((try simp only [SX.inK]); (try simp [SX.den, SX.IsU8, SX.AllP, *]); (try omega))), ?_⟩
  intro a7 w7 hr7 _
  refine post_call 18 [.ag [.v (.int .i64 d.cap), .v (.int .i64 d.op), .v (.int .i64 d.ac), .v (.slice ad d.Z.length cp)], .v (.slice adk K.length cpk)] hr7 (by first | exact wanted_none rfl | exact wanted_zero (hr7.env.same rfl rfl rfl rfl) rfl (by simp) | exact wanted_zero (hr7.env.same rfl rfl rfl rfl) rfl (by simp [*])) rfl (callable 18 Try.func18) (Free_ok w7 _ _ d K (hL.below hr7.keeps.toBelow) hl hD (hK.below hr7.keeps.toBelow) hnK) ?_
  rintro e8 w8 ⟨vo, rfl, hO8, hb8⟩
  refine ⟨_, rfl, ?_⟩
  have h8 := hr7.ret hb8 32 (.v vo) rfl _ (hr7.all.below hb8) (by simp) rfl
  obtain ⟨N, hNe⟩ : ∃ N, freeK d.Z K d.Z.length = N := ⟨_, rfl⟩
  have hn64 : N.length ≤ 64 := by have := freeK_len d.Z K d.Z.length; rw [hNe] at this; omega
  rw [hNe] at hO8
  obtain ⟨ado, cpo, rfl⟩ := hO8.slice
  refine seg cfg6_ok mixed PanicFree.body 1000 [] [] h8.rebase (by first | trivial | exact HpRep.nil | assumption) (by kernel_rfl) fun s_ hs_ => ?_
  simp (maxSteps := 10000000) [SX.vc, SX.stop, SX.contS, SX.contB, SX.contW, SX.contR, SX.contD, SX.sxStep, SX.stepPure, SX.stepNew, SX.stepStore, SX.stepKeep, SX.guardIx, SX.evOp, SX.opd, SX.opds, SX.optOpd, SX.look, SX.putS, SX.gobs, SX.AllP, SX.leave, SX.lookC, SX.lookB, SX.lookT, SX.lookN, SX.findK, SX.evBuiltin, SX.ints, SX.foldI, SX.evBin, SX.evInt, SX.evStr, SX.evEq, SX.arith, SX.evLoad, SX.shapeUp, SX.evFieldAddr, SX.evField, SX.evIndexAddr, SX.evIndex, SX.evFill, SX.evBuild, SX.szs, SX.cellsV, SX.evNew, SX.evStore, SX.spliceL, SX.SV.cells, SX.evConv, SX.evSlice, SX.bnd, SX.evNil, SX.evUn, SX.evPick, SX.pickOpd, SX.popTo, SX.cnd, SX.env0, SX.TD.isAgg, SX.TD.isIface, SX.tails, SX.NotAgg, SX.evLookup, SX.evConvH, SX.evPtrEq, SX.isCells, SX.thaw, SX.frz, SX.fixB, SX.rootIx, SX.Froz, SX.frzStep, SX.fork, Go.Value.cells, Go.undef, cfg6, devC]
  refine ⟨by (unfold SX.Ob; first | trivial | omega | ((try simp only [SX.inK]); (try simp [SX.den, SX.IsU8, SX.AllP, *]); (try omega))), ?_⟩
  intro a9 w9 hr9' _
  have k2 := SO.rep_lt hr7.all.1.1
  have hO9 := (hO8.keep hr9'.keeps (by simp [frameAt, mutB]; omega)).rd
  have hr9a := h8.unbase hr9'
  have hL9 := hL.below hr9a.keeps.toBelow
  have hK9 := hK.below hr9a.keeps.toBelow
  have hr9b := hr9a.see _ (HpAll.imm hr9a.all)
  simp only [List.map_cons, List.map_nil] at hr9b
  have hs2 : w.heap.size ≤ s2 := by
    rcases hr9a.all.1.2.1 rfl with h | h
    · exact h
    · cases h
  have z9 : w.heap.size ≤ w9.heap.size := hr9a.keeps.size
  refine post_loop (FrLoop1 _ d s2 (.slice ad d.Z.length cp) (.slice ado N.length cpo) (.slice adk K.length cpk)) d.Z.length ⟨0, rfl, by omega, hr9b.rebase.re (by simp [envTo, SX.look]) ⟨⟨hr9b.all.1.1, by simp, by simp⟩, trivial⟩ rfl rfl⟩ ?_
  clear hr hr1 h2 hr3 h4 hr5 h6 hr7 h8 hr9'
  rintro m a10 w10 ⟨k, rfl, hk, hr10⟩
  have hb10 := hr10.keeps.toBelow
  by_cases hlt : k < d.Z.length
  · obtain ⟨b, o0, cap, u, fz, hP, hv, hrep⟩ := (hL9.below hb10).opn hlt
    cases hv
    obtain ⟨x, hx⟩ : ∃ x, nth zon0 d.Z k = x := ⟨_, rfl⟩
    have hA10 := hr10.all.1
    have h11 := (hr10.top 34 (.sl 1 b o0 0 d.Z.length cp 3) rfl (by simp [den])).see [(s2, false, .cells (devC d _) 24), (b, false, .arr o0 d.Z.length (fun j => znC (nth zon0 d.Z j)) 3 u fz)] ⟨⟨hA10.1, by simp, by simp; omega⟩, HpAll.one hrep⟩
    have hmf : (k : Int) ∈ N ↔ freeP d.Z K k = true := hNe ▸ mem_freeK hlt
    by_cases hx0 : x.st = 0
    rotate_left
    · have hno : (k : Int) ∉ N := fun h => by
        have := hmf.1 h
        simp [freeP, hx, hx0] at this
      refine seg cfg6_ok mixed PanicFree.body 1000 [true] [(47, false)] h11 (by first | trivial | exact HpRep.nil | assumption) (by kernel_rfl) fun s_ hs_ => ?_
      simp (maxSteps := 10000000) [SX.vc, SX.stop, SX.contS, SX.contB, SX.contW, SX.contR, SX.contD, SX.sxStep, SX.stepPure, SX.stepNew, SX.stepStore, SX.stepKeep, SX.guardIx, SX.evOp, SX.opd, SX.opds, SX.optOpd, SX.look, SX.putS, SX.gobs, SX.AllP, SX.leave, SX.lookC, SX.lookB, SX.lookT, SX.lookN, SX.findK, SX.evBuiltin, SX.ints, SX.foldI, SX.evBin, SX.evInt, SX.evStr, SX.evEq, SX.arith, SX.evLoad, SX.shapeUp, SX.evFieldAddr, SX.evField, SX.evIndexAddr, SX.evIndex, SX.evFill, SX.evBuild, SX.szs, SX.cellsV, SX.evNew, SX.evStore, SX.spliceL, SX.SV.cells, SX.evConv, SX.evSlice, SX.bnd, SX.evNil, SX.evUn, SX.evPick, SX.pickOpd, SX.popTo, SX.cnd, SX.env0, SX.TD.isAgg, SX.TD.isIface, SX.tails, SX.NotAgg, SX.evLookup, SX.evConvH, SX.evPtrEq, SX.isCells, SX.thaw, SX.frz, SX.fixB, SX.rootIx, SX.Froz, SX.frzStep, SX.fork, Go.Value.cells, Go.undef, cfg6, znC, hx, hx0]
      refine ⟨by (unfold SX.Ob; first | trivial | omega | ((try simp only [SX.inK]); (try simp [SX.den, SX.IsU8, SX.AllP, *]); (try omega))), ?_⟩
      intro a12 w12 hr12 ht12
      refine post_callD 11 [.v (.slice ado N.length cpo), .v (.int .i64 k)] hr12 rfl (by first | exact wanted_none rfl | exact wanted_zero (hr12.env.same rfl rfl rfl rfl) rfl (by simp) | exact wanted_zero (hr12.env.same rfl rfl rfl rfl) rfl (by simp [*])) rfl (callable 11 Try.func11) (rin_ok w12 _ N k (hO9.below hr12.keeps.toBelow) (by omega)) ?_
      rintro e13 w13 ⟨rfl, hb13⟩
      have ht13 := HpRep_below ht12 hb13
      refine ⟨_, rfl, ht13, ?_⟩
      have hr13 := hr12.ret hb13 43 (.v (.bool (decide ((k : Int) ∈ N)))) rfl _ (hr12.all.below hb13) (by simp) rfl
      refine seg cfg6_ok mixed PanicFree.body 1000 [false] [(47, false)] hr13 (by first | trivial | exact HpRep.nil | assumption) (by kernel_rfl) fun s_ hs_ => ?_
      simp (maxSteps := 10000000) [SX.vc, SX.stop, SX.contS, SX.contB, SX.contW, SX.contR, SX.contD, SX.sxStep, SX.stepPure, SX.stepNew, SX.stepStore, SX.stepKeep, SX.guardIx, SX.evOp, SX.opd, SX.opds, SX.optOpd, SX.look, SX.putS, SX.gobs, SX.AllP, SX.leave, SX.lookC, SX.lookB, SX.lookT, SX.lookN, SX.findK, SX.evBuiltin, SX.ints, SX.foldI, SX.evBin, SX.evInt, SX.evStr, SX.evEq, SX.arith, SX.evLoad, SX.shapeUp, SX.evFieldAddr, SX.evField, SX.evIndexAddr, SX.evIndex, SX.evFill, SX.evBuild, SX.szs, SX.cellsV, SX.evNew, SX.evStore, SX.spliceL, SX.SV.cells, SX.evConv, SX.evSlice, SX.bnd, SX.evNil, SX.evUn, SX.evPick, SX.pickOpd, SX.popTo, SX.cnd, SX.env0, SX.TD.isAgg, SX.TD.isIface, SX.tails, SX.NotAgg, SX.evLookup, SX.evConvH, SX.evPtrEq, SX.isCells, SX.thaw, SX.frz, SX.fixB, SX.rootIx, SX.Froz, SX.frzStep, SX.fork, Go.Value.cells, Go.undef, cfg6, znC, hx, hx0, hno]
      refine ⟨by (unfold SX.Ob; first | trivial | omega | ((try simp only [SX.inK]); (try simp [SX.den, SX.IsU8, SX.AllP, *]); (try omega))), ?_⟩
      intro a14 w14 hr14 _
      exact post_rnd (d.Z.length - (k + 1)) (by omega) ⟨k + 1, rfl, by omega, hr14.re (by simp [envTo, SX.look, den]) ⟨⟨hr14.all.1.1, by simp, by simp⟩, trivial⟩ rfl rfl⟩
    obtain ⟨xst, xfe, xad, xn, xcp⟩ := x
    simp only at hx0
    subst hx0
    refine seg cfg6_ok mixed PanicFree.body 1000 [true] [(47, true)] h11 (by first | trivial | exact HpRep.nil | assumption) (by kernel_rfl) fun s_ hs_ => ?_
    simp (maxSteps := 10000000) [SX.vc, SX.stop, SX.contS, SX.contB, SX.contW, SX.contR, SX.contD, SX.sxStep, SX.stepPure, SX.stepNew, SX.stepStore, SX.stepKeep, SX.guardIx, SX.evOp, SX.opd, SX.opds, SX.optOpd, SX.look, SX.putS, SX.gobs, SX.AllP, SX.leave, SX.lookC, SX.lookB, SX.lookT, SX.lookN, SX.findK, SX.evBuiltin, SX.ints, SX.foldI, SX.evBin, SX.evInt, SX.evStr, SX.evEq, SX.arith, SX.evLoad, SX.shapeUp, SX.evFieldAddr, SX.evField, SX.evIndexAddr, SX.evIndex, SX.evFill, SX.evBuild, SX.szs, SX.cellsV, SX.evNew, SX.evStore, SX.spliceL, SX.SV.cells, SX.evConv, SX.evSlice, SX.bnd, SX.evNil, SX.evUn, SX.evPick, SX.pickOpd, SX.popTo, SX.cnd, SX.env0, SX.TD.isAgg, SX.TD.isIface, SX.tails, SX.NotAgg, SX.evLookup, SX.evConvH, SX.evPtrEq, SX.isCells, SX.thaw, SX.frz, SX.fixB, SX.rootIx, SX.Froz, SX.frzStep, SX.fork, Go.Value.cells, Go.undef, cfg6, znC, hx]
    refine ⟨by (unfold SX.Ob; first | trivial | omega | ((try simp only [SX.inK]); (try simp [SX.den, SX.IsU8, SX.AllP, *]); (try omega))), ?_⟩
    intro a12 w12 hr12 ht12
    refine post_callD 11 [.v (.slice ado N.length cpo), .v (.int .i64 k)] hr12 rfl (by first | exact wanted_none rfl | exact wanted_zero (hr12.env.same rfl rfl rfl rfl) rfl (by simp) | exact wanted_zero (hr12.env.same rfl rfl rfl rfl) rfl (by simp [*])) rfl (callable 11 Try.func11) (rin_ok w12 _ N k (hO9.below hr12.keeps.toBelow) (by omega)) ?_
    rintro e13 w13 ⟨rfl, hb13⟩
    have ht13 := HpRep_below ht12 hb13
    refine ⟨_, rfl, ht13, ?_⟩
    have hr13 := hr12.ret hb13 43 (.v (.bool (decide ((k : Int) ∈ N)))) rfl _ (hr12.all.below hb13) (by simp) rfl
    refine seg cfg6_ok mixed PanicFree.body 1000 [] [(47, true)] hr13 (by first | trivial | exact HpRep.nil | assumption) (by kernel_rfl) fun s_ hs_ => ?_
    simp (maxSteps := 10000000) [SX.vc, SX.stop, SX.contS, SX.contB, SX.contW, SX.contR, SX.contD, SX.sxStep, SX.stepPure, SX.stepNew, SX.stepStore, SX.stepKeep, SX.guardIx, SX.evOp, SX.opd, SX.opds, SX.optOpd, SX.look, SX.putS, SX.gobs, SX.AllP, SX.leave, SX.lookC, SX.lookB, SX.lookT, SX.lookN, SX.findK, SX.evBuiltin, SX.ints, SX.foldI, SX.evBin, SX.evInt, SX.evStr, SX.evEq, SX.arith, SX.evLoad, SX.shapeUp, SX.evFieldAddr, SX.evField, SX.evIndexAddr, SX.evIndex, SX.evFill, SX.evBuild, SX.szs, SX.cellsV, SX.evNew, SX.evStore, SX.spliceL, SX.SV.cells, SX.evConv, SX.evSlice, SX.bnd, SX.evNil, SX.evUn, SX.evPick, SX.pickOpd, SX.popTo, SX.cnd, SX.env0, SX.TD.isAgg, SX.TD.isIface, SX.tails, SX.NotAgg, SX.evLookup, SX.evConvH, SX.evPtrEq, SX.isCells, SX.thaw, SX.frz, SX.fixB, SX.rootIx, SX.Froz, SX.frzStep, SX.fork, Go.Value.cells, Go.undef, cfg6]
    refine ⟨by (unfold SX.Ob; first | trivial | omega | ((try simp only [SX.inK]); (try simp [SX.den, SX.IsU8, SX.AllP, *]); (try omega))), ?_⟩
    intro a14 w14 hr14 ht14
    refine post_callD 11 [.v (.slice adk K.length cpk), .v (.int .i64 k)] hr14 rfl (by first | exact wanted_none rfl | exact wanted_zero (hr14.env.same rfl rfl rfl rfl) rfl (by simp) | exact wanted_zero (hr14.env.same rfl rfl rfl rfl) rfl (by simp [*])) rfl (callable 11 Try.func11) (rin_ok w14 _ K k (hK9.below hr14.keeps.toBelow) (by omega)) ?_
    rintro e15 w15 ⟨rfl, hb15⟩
    have ht15 := HpRep_below ht14 hb15
    refine ⟨_, rfl, ht15, ?_⟩
    have hr15 := hr14.ret hb15 50 (.v (.bool (decide ((k : Int) ∈ K)))) rfl _ (hr14.all.below hb15) (by simp) rfl
    by_cases hin : (k : Int) ∈ K
    · have hno : (k : Int) ∉ N := fun h => by
        have := hmf.1 h
        simp [freeP, hin] at this
      refine seg cfg6_ok mixed PanicFree.body 1000 [false] [(47, true)] hr15 (by first | trivial | exact HpRep.nil | assumption) (by kernel_rfl) fun s_ hs_ => ?_
      simp (maxSteps := 10000000) [SX.vc, SX.stop, SX.contS, SX.contB, SX.contW, SX.contR, SX.contD, SX.sxStep, SX.stepPure, SX.stepNew, SX.stepStore, SX.stepKeep, SX.guardIx, SX.evOp, SX.opd, SX.opds, SX.optOpd, SX.look, SX.putS, SX.gobs, SX.AllP, SX.leave, SX.lookC, SX.lookB, SX.lookT, SX.lookN, SX.findK, SX.evBuiltin, SX.ints, SX.foldI, SX.evBin, SX.evInt, SX.evStr, SX.evEq, SX.arith, SX.evLoad, SX.shapeUp, SX.evFieldAddr, SX.evField, SX.evIndexAddr, SX.evIndex, SX.evFill, SX.evBuild, SX.szs, SX.cellsV, SX.evNew, SX.evStore, SX.spliceL, SX.SV.cells, SX.evConv, SX.evSlice, SX.bnd, SX.evNil, SX.evUn, SX.evPick, SX.pickOpd, SX.popTo, SX.cnd, SX.env0, SX.TD.isAgg, SX.TD.isIface, SX.tails, SX.NotAgg, SX.evLookup, SX.evConvH, SX.evPtrEq, SX.isCells, SX.thaw, SX.frz, SX.fixB, SX.rootIx, SX.Froz, SX.frzStep, SX.fork, Go.Value.cells, Go.undef, cfg6, hin, hno]
      refine ⟨by (unfold SX.Ob; first | trivial | omega | ((try simp only [SX.inK]); (try simp [SX.den, SX.IsU8, SX.AllP, *]); (try omega))), ?_⟩
      intro a16 w16 hr16 _
      exact post_rnd (d.Z.length - (k + 1)) (by omega) ⟨k + 1, rfl, by omega, hr16.re (by simp [envTo, SX.look, den]) ⟨⟨hr16.all.1.1, by simp, by simp⟩, trivial⟩ rfl rfl⟩
    · have hyes : (k : Int) ∈ N := hmf.2 (by simp [freeP, hx, hin])
      refine seg cfg6_ok mixed PanicFree.body 1000 [false] [(47, true)] hr15 (by first | trivial | exact HpRep.nil | assumption) (by kernel_rfl) fun s_ hs_ => ?_
      simp (maxSteps := 10000000) [SX.vc, SX.stop, SX.contS, SX.contB, SX.contW, SX.contR, SX.contD, SX.sxStep, SX.stepPure, SX.stepNew, SX.stepStore, SX.stepKeep, SX.guardIx, SX.evOp, SX.opd, SX.opds, SX.optOpd, SX.look, SX.putS, SX.gobs, SX.AllP, SX.leave, SX.lookC, SX.lookB, SX.lookT, SX.lookN, SX.findK, SX.evBuiltin, SX.ints, SX.foldI, SX.evBin, SX.evInt, SX.evStr, SX.evEq, SX.arith, SX.evLoad, SX.shapeUp, SX.evFieldAddr, SX.evField, SX.evIndexAddr, SX.evIndex, SX.evFill, SX.evBuild, SX.szs, SX.cellsV, SX.evNew, SX.evStore, SX.spliceL, SX.SV.cells, SX.evConv, SX.evSlice, SX.bnd, SX.evNil, SX.evUn, SX.evPick, SX.pickOpd, SX.popTo, SX.cnd, SX.env0, SX.TD.isAgg, SX.TD.isIface, SX.tails, SX.NotAgg, SX.evLookup, SX.evConvH, SX.evPtrEq, SX.isCells, SX.thaw, SX.frz, SX.fixB, SX.rootIx, SX.Froz, SX.frzStep, SX.fork, Go.Value.cells, Go.undef, cfg6, hin, hyes]
      refine ⟨by (unfold SX.Ob; first | trivial | omega | ((try simp only [SX.inK]); (try simp [SX.den, SX.IsU8, SX.AllP, *]); (try omega))), ?_⟩
      intro a16 w16 hr16 _
      exact post_rnd (d.Z.length - (k + 1)) (by omega) ⟨k + 1, rfl, by omega, hr16.re (by simp [envTo, SX.look, den]) ⟨⟨hr16.all.1.1, by simp, by simp⟩, trivial⟩ rfl rfl⟩
  obtain rfl : k = d.Z.length := by omega
  refine seg cfg6_ok mixed PanicFree.body 1000 [false] [] hr10 (by first | trivial | exact HpRep.nil | assumption) (by kernel_rfl) fun s_ hs_ => ?_
  simp (maxSteps := 10000000) [SX.vc, SX.stop, SX.contS, SX.contB, SX.contW, SX.contR, SX.contD, SX.sxStep, SX.stepPure, SX.stepNew, SX.stepStore, SX.stepKeep, SX.guardIx, SX.evOp, SX.opd, SX.opds, SX.optOpd, SX.look, SX.putS, SX.gobs, SX.AllP, SX.leave, SX.lookC, SX.lookB, SX.lookT, SX.lookN, SX.findK, SX.evBuiltin, SX.ints, SX.foldI, SX.evBin, SX.evInt, SX.evStr, SX.evEq, SX.arith, SX.evLoad, SX.shapeUp, SX.evFieldAddr, SX.evField, SX.evIndexAddr, SX.evIndex, SX.evFill, SX.evBuild, SX.szs, SX.cellsV, SX.evNew, SX.evStore, SX.spliceL, SX.SV.cells, SX.evConv, SX.evSlice, SX.bnd, SX.evNil, SX.evUn, SX.evPick, SX.pickOpd, SX.popTo, SX.cnd, SX.env0, SX.TD.isAgg, SX.TD.isIface, SX.tails, SX.NotAgg, SX.evLookup, SX.evConvH, SX.evPtrEq, SX.isCells, SX.thaw, SX.frz, SX.fixB, SX.rootIx, SX.Froz, SX.frzStep, SX.fork, Go.Value.cells, Go.undef, cfg6]
  refine ⟨by (unfold SX.Ob; first | trivial | omega | ((try simp only [SX.inK]); (try simp [SX.den, SX.IsU8, SX.AllP, *]); (try omega))), ?_⟩
  intro a12 w12 hr12 _
  refine post_loop (FrLoop2 _ d N.length s2 (.slice ad d.Z.length cp) (.slice ado N.length cpo)) N.length ⟨0, rfl, by omega, hr12.re (by simp [envTo, SX.look]) ⟨⟨hr12.all.1.1, by simp, by simp⟩, trivial⟩ rfl rfl⟩ ?_
  clear hr10 hr12
  rintro m aq w10 ⟨k, rfl, hk, hr10⟩
  have hb10 := hr10.keeps.toBelow
  have hA10 := hr10.all.1
  by_cases hlt : k < N.length
  · obtain ⟨b, o0, cap, u, fz, hP, hv, hrep⟩ := (hO9.below hb10).opn hlt
    cases hv
    rcases k with _ | k
    · refine seg cfg6_ok mixed PanicFree.body 1000 [true, false] [(62, false)] hr10 (by first | trivial | exact HpRep.nil | assumption) (by kernel_rfl) fun s_ hs_ => ?_
      simp (maxSteps := 10000000) [SX.vc, SX.stop, SX.contS, SX.contB, SX.contW, SX.contR, SX.contD, SX.sxStep, SX.stepPure, SX.stepNew, SX.stepStore, SX.stepKeep, SX.guardIx, SX.evOp, SX.opd, SX.opds, SX.optOpd, SX.look, SX.putS, SX.gobs, SX.AllP, SX.leave, SX.lookC, SX.lookB, SX.lookT, SX.lookN, SX.findK, SX.evBuiltin, SX.ints, SX.foldI, SX.evBin, SX.evInt, SX.evStr, SX.evEq, SX.arith, SX.evLoad, SX.shapeUp, SX.evFieldAddr, SX.evField, SX.evIndexAddr, SX.evIndex, SX.evFill, SX.evBuild, SX.szs, SX.cellsV, SX.evNew, SX.evStore, SX.spliceL, SX.SV.cells, SX.evConv, SX.evSlice, SX.bnd, SX.evNil, SX.evUn, SX.evPick, SX.pickOpd, SX.popTo, SX.cnd, SX.env0, SX.TD.isAgg, SX.TD.isIface, SX.tails, SX.NotAgg, SX.evLookup, SX.evConvH, SX.evPtrEq, SX.isCells, SX.thaw, SX.frz, SX.fixB, SX.rootIx, SX.Froz, SX.frzStep, SX.fork, Go.Value.cells, Go.undef, cfg6]
      refine ⟨by (unfold SX.Ob; first | trivial | omega | ((try simp only [SX.inK]); (try simp [SX.den, SX.IsU8, SX.AllP, *]); (try omega))), ?_⟩
      intro a12 w12 hr12 _
      exact post_rnd (N.length - (0 + 1)) (by omega) ⟨0 + 1, rfl, by omega, hr12.re (by simp [envTo, SX.look, den]) ⟨⟨hr12.all.1.1, by simp, by simp⟩, trivial⟩ rfl rfl⟩
    · obtain ⟨x, hx⟩ : ∃ x, nth (0 : Int) N k = x := ⟨_, rfl⟩
      obtain ⟨y, hy⟩ : ∃ y, nth (0 : Int) N (k + 1) = y := ⟨_, rfl⟩
      have hxy : ¬ y ≤ x := by
        have hpw := freeK_lt d.Z K d.Z.length
        rw [hNe] at hpw
        have := List.pairwise_iff_getElem.1 hpw k (k + 1) (by omega) hlt (by omega)
        rw [nth_lt (by omega)] at hx
        rw [nth_lt hlt] at hy
        omega
      have hk1 : (0 : Int) < (k : Int) + 1 := by omega
      have hklt : k < N.length := by omega
      have h11 := (hr10.top 6 (.sl 1 b o0 0 N.length cpo 1) rfl (by simp [den])).see [(s2, false, .cells (devC d _) 24), (b, false, .arr o0 N.length (fun j => intC (nth (0 : Int) N j)) 1 u fz)] ⟨⟨hA10.1, by simp, by simp; omega⟩, HpAll.one hrep⟩
      refine seg cfg6_ok mixed PanicFree.body 1000 [true, false] [(62, true)] h11 (by first | trivial | exact HpRep.nil | assumption) (by kernel_rfl) fun s_ hs_ => ?_
      simp (maxSteps := 10000000) [SX.vc, SX.stop, SX.contS, SX.contB, SX.contW, SX.contR, SX.contD, SX.sxStep, SX.stepPure, SX.stepNew, SX.stepStore, SX.stepKeep, SX.guardIx, SX.evOp, SX.opd, SX.opds, SX.optOpd, SX.look, SX.putS, SX.gobs, SX.AllP, SX.leave, SX.lookC, SX.lookB, SX.lookT, SX.lookN, SX.findK, SX.evBuiltin, SX.ints, SX.foldI, SX.evBin, SX.evInt, SX.evStr, SX.evEq, SX.arith, SX.evLoad, SX.shapeUp, SX.evFieldAddr, SX.evField, SX.evIndexAddr, SX.evIndex, SX.evFill, SX.evBuild, SX.szs, SX.cellsV, SX.evNew, SX.evStore, SX.spliceL, SX.SV.cells, SX.evConv, SX.evSlice, SX.bnd, SX.evNil, SX.evUn, SX.evPick, SX.pickOpd, SX.popTo, SX.cnd, SX.env0, SX.TD.isAgg, SX.TD.isIface, SX.tails, SX.NotAgg, SX.evLookup, SX.evConvH, SX.evPtrEq, SX.isCells, SX.thaw, SX.frz, SX.fixB, SX.rootIx, SX.Froz, SX.frzStep, SX.fork, Go.Value.cells, Go.undef, cfg6, intC, hx, hy, hxy, hk1, hlt, hklt]
      refine ⟨by (unfold SX.Ob; first | trivial | omega | ((try simp only [SX.inK]); (try simp [SX.den, SX.IsU8, SX.AllP, *]); (try omega))), ?_⟩
      intro a12 w12 hr12 _
      exact post_rnd (N.length - (k + 1 + 1)) (by omega) ⟨k + 1 + 1, rfl, by omega, hr12.re (by simp [envTo, SX.look, den]) ⟨⟨hr12.all.1.1, by simp, by simp⟩, trivial⟩ rfl rfl⟩
  obtain rfl : k = N.length := by omega
  have hwb := wst_bound (Z := d.Z) (f := fun _ => 0) (fun z hz => by
    have h := hD.2.2.2 z hz
    have hcap := hD.1.2.2.2.1
    unfold ZonOK at h
    omega) (fun j => by omega)
  refine seg cfg6_ok mixed PanicFree.body 1000 [false] [] hr10 (by first | trivial | exact HpRep.nil | assumption) (by kernel_rfl) fun s_ hs_ => ?_
  simp (maxSteps := 10000000) [SX.vc, SX.stop, SX.contS, SX.contB, SX.contW, SX.contR, SX.contD, SX.sxStep, SX.stepPure, SX.stepNew, SX.stepStore, SX.stepKeep, SX.guardIx, SX.evOp, SX.opd, SX.opds, SX.optOpd, SX.look, SX.putS, SX.gobs, SX.AllP, SX.leave, SX.lookC, SX.lookB, SX.lookT, SX.lookN, SX.findK, SX.evBuiltin, SX.ints, SX.foldI, SX.evBin, SX.evInt, SX.evStr, SX.evEq, SX.arith, SX.evLoad, SX.shapeUp, SX.evFieldAddr, SX.evField, SX.evIndexAddr, SX.evIndex, SX.evFill, SX.evBuild, SX.szs, SX.cellsV, SX.evNew, SX.evStore, SX.spliceL, SX.SV.cells, SX.evConv, SX.evSlice, SX.bnd, SX.evNil, SX.evUn, SX.evPick, SX.pickOpd, SX.popTo, SX.cnd, SX.env0, SX.TD.isAgg, SX.TD.isIface, SX.tails, SX.NotAgg, SX.evLookup, SX.evConvH, SX.evPtrEq, SX.isCells, SX.thaw, SX.frz, SX.fixB, SX.rootIx, SX.Froz, SX.frzStep, SX.fork, Go.Value.cells, Go.undef, cfg6, devC]
  refine ⟨by (unfold SX.Ob; first | trivial | omega | ((try simp only [SX.inK]); (try simp [SX.den, SX.IsU8, SX.AllP, *]); (try omega))), ?_⟩
  intro a12 w12 hr12 _
  have hL9w : RdZ (fun x => x < w12.heap.size) w12 (.slice ad d.Z.length cp) d.Z := (hL9.below hr12.keeps.toBelow).mono fun x h _ => h
  have hW := Waste_ok (P := fun _ => True) w12 (.slice ad d.Z.length cp) (.slice none 0 0) d [] hL9w hl hD (.inl ⟨rfl, _, _, rfl⟩ : RdE (fun _ => True) w12 _ []) (by simp) (by decide)
  have hwe : maxZ (wst d.Z (cntE []) d.Z.length) = wst d.Z (fun _ => 0) d.Z.length := by
    have h1 : cntE [] = fun _ => 0 := rfl
    rw [h1, maxZ, if_neg]
    have := wst_whole (Z := d.Z) d.Z.length (Nat.le_refl _)
    omega
  rw [hwe] at hW
  obtain ⟨q, hq⟩ : ∃ q, wst d.Z (fun _ => 0) d.Z.length = q := ⟨_, rfl⟩
  rw [hq] at hW
  refine post_call 17 [.ag [.v (.int .i64 d.cap), .v (.int .i64 d.op), .v (.int .i64 d.ac), .v (.slice ad d.Z.length cp)], .v (.slice none 0 0)] hr12 (by first | exact wanted_none rfl | exact wanted_zero (hr12.env.same rfl rfl rfl rfl) rfl (by simp) | exact wanted_zero (hr12.env.same rfl rfl rfl rfl) rfl (by simp [*])) rfl (callable 17 Try.func17) (hW) ?_
  rintro e13 w13 ⟨rfl, hb13⟩
  refine ⟨_, rfl, ?_⟩
  have h13 := hr12.ret hb13 77 (.tu [.v (.int .i64 q), .v (.int .i64 0)]) rfl _ (hr12.all.below hb13) (by simp) rfl
  refine seg cfg6_ok mixed PanicFree.body 1000 [] [] h13 (by first | trivial | exact HpRep.nil | assumption) (by kernel_rfl) fun s_ hs_ => ?_
  simp (maxSteps := 10000000) [SX.vc, SX.stop, SX.contS, SX.contB, SX.contW, SX.contR, SX.contD, SX.sxStep, SX.stepPure, SX.stepNew, SX.stepStore, SX.stepKeep, SX.guardIx, SX.evOp, SX.opd, SX.opds, SX.optOpd, SX.look, SX.putS, SX.gobs, SX.AllP, SX.leave, SX.lookC, SX.lookB, SX.lookT, SX.lookN, SX.findK, SX.evBuiltin, SX.ints, SX.foldI, SX.evBin, SX.evInt, SX.evStr, SX.evEq, SX.arith, SX.evLoad, SX.shapeUp, SX.evFieldAddr, SX.evField, SX.evIndexAddr, SX.evIndex, SX.evFill, SX.evBuild, SX.szs, SX.cellsV, SX.evNew, SX.evStore, SX.spliceL, SX.SV.cells, SX.evConv, SX.evSlice, SX.bnd, SX.evNil, SX.evUn, SX.evPick, SX.pickOpd, SX.popTo, SX.cnd, SX.env0, SX.TD.isAgg, SX.TD.isIface, SX.tails, SX.NotAgg, SX.evLookup, SX.evConvH, SX.evPtrEq, SX.isCells, SX.thaw, SX.frz, SX.fixB, SX.rootIx, SX.Froz, SX.frzStep, SX.fork, Go.Value.cells, Go.undef, cfg6, devC]
  refine ⟨by (unfold SX.Ob; first | trivial | omega | ((try simp only [SX.inK]); (try simp [SX.den, SX.IsU8, SX.AllP, *]); (try omega))), ?_⟩
  intro a14 w14 hr14 _
  refine post_loop (FrLoop3 _ d q (.slice ad d.Z.length cp)) d.Z.length ⟨0, rfl, by omega, hr14.re (by simp [envTo, SX.look, wst]) trivial rfl rfl⟩ ?_
  clear hr10 hr12 h13 hr14
  rintro m aq2 w10' ⟨k, rfl, hk, hr10⟩
  have hb10' := hr10.keeps.toBelow
  by_cases hlt : k < d.Z.length
  · obtain ⟨b, o0, cap, u, fz, hP, hv, hrep⟩ := (hL9.below hb10').opn hlt
    cases hv
    obtain ⟨x, hx⟩ : ∃ x, nth zon0 d.Z k = x := ⟨_, rfl⟩
    have hxm : x ∈ d.Z := hx ▸ nth_mem hlt
    have hw0 := hwb k hk
    have hw1 := hwb (k + 1) hlt
    have hstep : wst d.Z (fun _ => 0) (k + 1) = wst d.Z (fun _ => 0) k + whl x := by simp only [wst, hx]; omega
    rw [hstep] at hw1
    obtain ⟨s, hs⟩ : ∃ s, wst d.Z (fun _ => 0) k = s := ⟨_, rfl⟩
    rw [hs] at hw0 hw1 hstep hr10
    have hwq : (x.n : Int).tdiv 16 = whl x := by rw [whl, Int.ofNat_tdiv]; rfl
    have hwx : 0 ≤ whl x ∧ whl x ≤ 1000000000000000 := by
      have := hl x hxm
      unfold whl
      omega
    have h11 := (hr10.top 81 (.sl 0 b o0 0 d.Z.length cp 3) rfl (by simp [den])).see _ (HpAll.one hrep)
    refine seg cfg6_ok mixed PanicFree.body 1000 [true] [] h11 (by first | trivial | exact HpRep.nil | assumption) (by kernel_rfl) fun s_ hs_ => ?_
    simp (maxSteps := 10000000) [SX.vc, SX.stop, SX.contS, SX.contB, SX.contW, SX.contR, SX.contD, SX.sxStep, SX.stepPure, SX.stepNew, SX.stepStore, SX.stepKeep, SX.guardIx, SX.evOp, SX.opd, SX.opds, SX.optOpd, SX.look, SX.putS, SX.gobs, SX.AllP, SX.leave, SX.lookC, SX.lookB, SX.lookT, SX.lookN, SX.findK, SX.evBuiltin, SX.ints, SX.foldI, SX.evBin, SX.evInt, SX.evStr, SX.evEq, SX.arith, SX.evLoad, SX.shapeUp, SX.evFieldAddr, SX.evField, SX.evIndexAddr, SX.evIndex, SX.evFill, SX.evBuild, SX.szs, SX.cellsV, SX.evNew, SX.evStore, SX.spliceL, SX.SV.cells, SX.evConv, SX.evSlice, SX.bnd, SX.evNil, SX.evUn, SX.evPick, SX.pickOpd, SX.popTo, SX.cnd, SX.env0, SX.TD.isAgg, SX.TD.isIface, SX.tails, SX.NotAgg, SX.evLookup, SX.evConvH, SX.evPtrEq, SX.isCells, SX.thaw, SX.frz, SX.fixB, SX.rootIx, SX.Froz, SX.frzStep, SX.fork, Go.Value.cells, Go.undef, cfg6, znC, hx, hwq]
    refine ⟨by (unfold SX.Ob; first | trivial | omega | ((try simp only [SX.inK]); (try simp [SX.den, SX.IsU8, SX.AllP, *]); (try omega))), ?_⟩
    intro a12 w12 hr12 _
    exact post_rnd (d.Z.length - (k + 1)) (by omega) ⟨k + 1, rfl, by omega, hr12.re (by rw [hstep]; simp [envTo, SX.look, den]) trivial rfl rfl⟩
  obtain rfl : k = d.Z.length := by omega
  rw [hq] at hr10
  refine seg cfg6_ok mixed PanicFree.body 1000 [false] [(95, true), (99, true)] hr10 (by first | trivial | exact HpRep.nil | assumption) (by kernel_rfl) fun s_ hs_ => ?_
  simp (maxSteps := 10000000) [SX.vc, SX.stop, SX.contS, SX.contB, SX.contW, SX.contR, SX.contD, SX.sxStep, SX.stepPure, SX.stepNew, SX.stepStore, SX.stepKeep, SX.guardIx, SX.evOp, SX.opd, SX.opds, SX.optOpd, SX.look, SX.putS, SX.gobs, SX.AllP, SX.leave, SX.lookC, SX.lookB, SX.lookT, SX.lookN, SX.findK, SX.evBuiltin, SX.ints, SX.foldI, SX.evBin, SX.evInt, SX.evStr, SX.evEq, SX.arith, SX.evLoad, SX.shapeUp, SX.evFieldAddr, SX.evField, SX.evIndexAddr, SX.evIndex, SX.evFill, SX.evBuild, SX.szs, SX.cellsV, SX.evNew, SX.evStore, SX.spliceL, SX.SV.cells, SX.evConv, SX.evSlice, SX.bnd, SX.evNil, SX.evUn, SX.evPick, SX.pickOpd, SX.popTo, SX.cnd, SX.env0, SX.TD.isAgg, SX.TD.isIface, SX.tails, SX.NotAgg, SX.evLookup, SX.evConvH, SX.evPtrEq, SX.isCells, SX.thaw, SX.frz, SX.fixB, SX.rootIx, SX.Froz, SX.frzStep, SX.fork, Go.Value.cells, Go.undef, cfg6]
  refine ⟨by (unfold SX.Ob; first | trivial | omega | ((try simp only [SX.inK]); (try simp [SX.den, SX.IsU8, SX.AllP, *]); (try omega))), ?_⟩
  intro a12 w12 hr12 _
  have hr13 := hr9b.unbase hr12
  exact post_retn (end1 hr13 rfl rfl ⟨rfl, hr13.keeps.toBelow⟩).1
end Go.Proofs
