/- Live: LivePlans walked. -/
import Derived.Test.YtnmjdelnllchdaaDR
import Derived.Test.YtnmjdelnllchdaaDQ
namespace Go.Proofs
set_option linter.unusedVariables false
set_option linter.unusedSimpArgs false
open Go Go.SX Go.RowKit

theorem StabP.perm {key : Int → Int} {L A : List Int} (hA : StabP key L A) : A.Perm L := by
  rw [List.perm_iff_count]
  intro x
  have h := congrArg (List.count x) (hA.2.1 (key x))
  rw [List.count_filter (by simp), List.count_filter (by simp)] at h
  exact h
theorem mem_vicK {d : Dev} {L : List Ext} {K : List Int} {n : Nat} {x : Int} : x ∈ vicK d L K n ↔ ∃ i : Nat, x = i ∧ i < n ∧ vicP d L K i = true := by
  unfold vicK
  rw [List.mem_map]
  constructor
  · rintro ⟨i, hi, rfl⟩
    have h := List.mem_filter.1 hi
    exact ⟨i, rfl, List.mem_range.1 h.1, h.2⟩
  · rintro ⟨i, rfl, h1, h2⟩
    exact ⟨i, List.mem_filter.2 ⟨List.mem_range.2 h1, h2⟩, rfl⟩
theorem vicK_nodup (d : Dev) (L : List Ext) (K : List Int) (n : Nat) : (vicK d L K n).Nodup := by
  have h : (vicK d L K n).Pairwise (· < ·) := by
    unfold vicK
    rw [List.pairwise_map]
    exact (List.Pairwise.sublist List.filter_sublist List.pairwise_lt_range).imp fun h => by simpa using h
  exact h.imp fun h => by omega
theorem not_mem_take {p : List Int} (h : p.Nodup) {k : Nat} (hk : k < p.length) : nth (0 : Int) p k ∉ p.take k := by
  intro hm
  rw [nth_lt hk] at hm
  obtain ⟨j, hj, he⟩ := List.mem_iff_getElem.1 hm
  simp only [List.length_take] at hj
  rw [List.getElem_take] at he
  exact (List.pairwise_iff_getElem.1 h j k (by omega) hk (by omega)) he

def PlJ (F : Fr) (d : Dev) (s4 : Nat) (vz vc vp v2 : Value) (x0 : Int) (b0 : Bool) (a : Act) (w' : World) : Prop :=
  RepX F ⟨[(14, 0, .v vp), (10, 0, .v vc), (3, 0, .v v2), (4, 0, .ptr 0 s4 0), (9, 0, .v (.bool true)), (12, 0, .v (.int .i64 x0)), (13, 0, .v (.bool b0))], [(s4, false, .cells (devC d vz) 24)], 0, 0, 212, [], [], []⟩ a w'
def PlLoop1 (F : Fr) (d : Dev) (np s4 : Nat) (vz vc vp v2 : Value) (x0 : Int) (b0 : Bool) (m : Nat) (a : Act) (w' : World) : Prop :=
  ∃ k : Nat, m = np - k ∧ k ≤ np ∧ RepX F ⟨[(98, 0, .v (.int .i64 k)), (97, 0, .v (.int .i64 np)), (96, 0, .v vp), (14, 0, .v vp), (10, 0, .v vc), (3, 0, .v v2), (4, 0, .ptr 0 s4 0), (9, 0, .v (.bool true)), (12, 0, .v (.int .i64 x0)), (13, 0, .v (.bool b0))], [(s4, false, .cells (devC d vz) 24)], 0, 0, 212, [], [], []⟩ a w'
def PlLoop2 (F : Fr) (d : Dev) (s4 : Nat) (vz vc v2 : Value) (x0 : Int) (m : Nat) (a : Act) (w' : World) : Prop :=
  ∃ k : Nat, m = d.Z.length - k ∧ k ≤ d.Z.length ∧ RepX F ⟨[(174, 0, .v (.int .i64 k)), (173, 0, .v (.int .i64 d.Z.length)), (172, 0, .v vz), (10, 0, .v vc), (3, 0, .v v2), (4, 0, .ptr 0 s4 0), (9, 0, .v (.bool true)), (12, 0, .v (.int .i64 x0))], [(s4, false, .cells (devC d vz) 24)], 0, 0, 212, [], [], []⟩ a w'

set_option maxRecDepth 100000 in
set_option maxHeartbeats 64000000 in
/-- LivePlans. -/
theorem plans_ok (w : World) (v vm v2 : Value) (d : Dev) (L : List Ext) (want : Int) (K : List Int) (hL : RdZ (fun x => x < w.heap.size) w v d.Z) (hn : d.Z.length ≤ 1000000000000000) (hl : LenOK d.Z) (hM : RdE (fun x => x < w.heap.size) w vm L) (hnM : L.length ≤ 1000000000000000) (hK : RdI (fun x => x < w.heap.size) w v2 K) (hnK : K.length ≤ 1000000000000000) : Calls Try.prog 4 (denL [.ag (devC d v), .v vm, .v (.int .i64 want), .v v2]).toArray w (fun ev w' => ev = .returned (.bool true) ∧ Below w.heap.size w w') := by
  obtain ⟨ad, cp, rfl⟩ := hL.slice
  obtain ⟨adm, cpm, rfl⟩ := hM.slice
  obtain ⟨adk, cpk, rfl⟩ := hK.slice
  refine enter (F := frame0 w) Try.func4 rfl [.ag (devC d (.slice ad d.Z.length cp)), .v (.slice adm L.length cpm), .v (.int .i64 want), .v (.slice adk K.length cpk)] [] (by simp [Try.f4]) trivial (keeps0 w) fun a hr => ?_
  refine seg cfg4_ok mixed PanicFree.body 1000 [] [] hr (by first | trivial | exact HpRep.nil | assumption) (by kernel_rfl) fun s4 hs4 => ?_
  simp (maxSteps := 10000000) [SX.vc, SX.stop, SX.contS, SX.contB, SX.contW, SX.contR, SX.contD, SX.sxStep, SX.stepPure, SX.stepNew, SX.stepStore, SX.stepKeep, SX.guardIx, SX.evOp, SX.opd, SX.opds, SX.optOpd, SX.look, SX.putS, SX.gobs, SX.AllP, SX.leave, SX.lookC, SX.lookB, SX.lookT, SX.lookN, SX.findK, SX.evBuiltin, SX.ints, SX.foldI, SX.evBin, SX.evInt, SX.evStr, SX.evEq, SX.arith, SX.evLoad, SX.shapeUp, SX.evFieldAddr, SX.evField, SX.evIndexAddr, SX.evIndex, SX.evFill, SX.evBuild, SX.szs, SX.cellsV, SX.evNew, SX.evStore, SX.spliceL, SX.SV.cells, SX.evConv, SX.evSlice, SX.bnd, SX.evNil, SX.evUn, SX.evPick, SX.pickOpd, SX.popTo, SX.cnd, SX.env0, SX.TD.isAgg, SX.TD.isIface, SX.tails, SX.NotAgg, SX.evLookup, SX.evConvH, SX.evPtrEq, SX.isCells, SX.thaw, SX.frz, SX.fixB, SX.rootIx, SX.Froz, SX.frzStep, SX.fork, Go.Value.cells, Go.undef, cfg4, Try.f4, devC]
  refine ⟨by (unfold SX.Ob; first | trivial | omega | ((try simp only [SX.inK]); (try simp [SX.den, SX.IsU8, SX.AllP, *]); (try omega))), ?_⟩
  intro a1 w1 hr1 _
  refine post_call 8 [] hr1 (by first | exact wanted_none rfl | exact wanted_zero (hr1.env.same rfl rfl rfl rfl) rfl (by simp) | exact wanted_zero (hr1.env.same rfl rfl rfl rfl) rfl (by simp [*])) rfl (callable 8 Try.func8) (up_ok w1) ?_
  rintro e2 w2 ⟨rfl, hb2⟩
  refine ⟨_, rfl, ?_⟩
  have h2 := hr1.ret hb2 19 (.v (.bool true)) rfl _ (hr1.all.below hb2) (by simp) rfl
  refine seg cfg4_ok mixed PanicFree.body 1000 [] [] h2 (by first | trivial | exact HpRep.nil | assumption) (by kernel_rfl) fun s_ hs_ => ?_
  simp (maxSteps := 10000000) [SX.vc, SX.stop, SX.contS, SX.contB, SX.contW, SX.contR, SX.contD, SX.sxStep, SX.stepPure, SX.stepNew, SX.stepStore, SX.stepKeep, SX.guardIx, SX.evOp, SX.opd, SX.opds, SX.optOpd, SX.look, SX.putS, SX.gobs, SX.AllP, SX.leave, SX.lookC, SX.lookB, SX.lookT, SX.lookN, SX.findK, SX.evBuiltin, SX.ints, SX.foldI, SX.evBin, SX.evInt, SX.evStr, SX.evEq, SX.arith, SX.evLoad, SX.shapeUp, SX.evFieldAddr, SX.evField, SX.evIndexAddr, SX.evIndex, SX.evFill, SX.evBuild, SX.szs, SX.cellsV, SX.evNew, SX.evStore, SX.spliceL, SX.SV.cells, SX.evConv, SX.evSlice, SX.bnd, SX.evNil, SX.evUn, SX.evPick, SX.pickOpd, SX.popTo, SX.cnd, SX.env0, SX.TD.isAgg, SX.TD.isIface, SX.tails, SX.NotAgg, SX.evLookup, SX.evConvH, SX.evPtrEq, SX.isCells, SX.thaw, SX.frz, SX.fixB, SX.rootIx, SX.Froz, SX.frzStep, SX.fork, Go.Value.cells, Go.undef, cfg4, devC]
  refine ⟨by (unfold SX.Ob; first | trivial | omega | ((try simp only [SX.inK]); (try simp [SX.den, SX.IsU8, SX.AllP, *]); (try omega))), ?_⟩
  intro a3 w3 hr3 _
  refine post_call 9 [.ag [.v (.int .i64 d.cap), .v (.int .i64 d.op), .v (.int .i64 d.ac), .v (.slice ad d.Z.length cp)], .v (.slice adm L.length cpm)] hr3 (by first | exact wanted_none rfl | exact wanted_zero (hr3.env.same rfl rfl rfl rfl) rfl (by simp) | exact wanted_zero (hr3.env.same rfl rfl rfl rfl) rfl (by simp [*])) rfl (callable 9 Try.func9) (few_ok w3 _ d adm L.length cpm (hL.below hr3.keeps.toBelow) hn hl (by omega)) ?_
  rintro e4 w4 ⟨rfl, hb4⟩
  refine ⟨_, rfl, ?_⟩
  have h4 := hr3.ret hb4 22 (.v (.bool (decide (FewD d.Z L.length)))) rfl _ (hr3.all.below hb4) (by simp) rfl
  by_cases hF : FewD d.Z L.length
  rotate_left
  · refine seg cfg4_ok mixed PanicFree.body 1000 [true] [(24, true), (29, true), (34, true)] h4 (by first | trivial | exact HpRep.nil | assumption) (by kernel_rfl) fun s_ hs_ => ?_
    simp (maxSteps := 10000000) [SX.vc, SX.stop, SX.contS, SX.contB, SX.contW, SX.contR, SX.contD, SX.sxStep, SX.stepPure, SX.stepNew, SX.stepStore, SX.stepKeep, SX.guardIx, SX.evOp, SX.opd, SX.opds, SX.optOpd, SX.look, SX.putS, SX.gobs, SX.AllP, SX.leave, SX.lookC, SX.lookB, SX.lookT, SX.lookN, SX.findK, SX.evBuiltin, SX.ints, SX.foldI, SX.evBin, SX.evInt, SX.evStr, SX.evEq, SX.arith, SX.evLoad, SX.shapeUp, SX.evFieldAddr, SX.evField, SX.evIndexAddr, SX.evIndex, SX.evFill, SX.evBuild, SX.szs, SX.cellsV, SX.evNew, SX.evStore, SX.spliceL, SX.SV.cells, SX.evConv, SX.evSlice, SX.bnd, SX.evNil, SX.evUn, SX.evPick, SX.pickOpd, SX.popTo, SX.cnd, SX.env0, SX.TD.isAgg, SX.TD.isIface, SX.tails, SX.NotAgg, SX.evLookup, SX.evConvH, SX.evPtrEq, SX.isCells, SX.thaw, SX.frz, SX.fixB, SX.rootIx, SX.Froz, SX.frzStep, SX.fork, Go.Value.cells, Go.undef, cfg4, hF]
    refine ⟨by (unfold SX.Ob; first | trivial | omega | ((try simp only [SX.inK]); (try simp [SX.den, SX.IsU8, SX.AllP, *]); (try omega))), ?_⟩
    intro a5 w5 hr5 _
    exact post_retn (end1 hr5 rfl rfl ⟨rfl, hr5.keeps.toBelow⟩).1
  have hm300 : L.length < 300 := hF.2.2
  by_cases hK1 : 100 < (K.length : Int)
  · refine seg cfg4_ok mixed PanicFree.body 1000 [true] [(24, false), (29, true), (34, true)] h4 (by first | trivial | exact HpRep.nil | assumption) (by kernel_rfl) fun s_ hs_ => ?_
    simp (maxSteps := 10000000) [SX.vc, SX.stop, SX.contS, SX.contB, SX.contW, SX.contR, SX.contD, SX.sxStep, SX.stepPure, SX.stepNew, SX.stepStore, SX.stepKeep, SX.guardIx, SX.evOp, SX.opd, SX.opds, SX.optOpd, SX.look, SX.putS, SX.gobs, SX.AllP, SX.leave, SX.lookC, SX.lookB, SX.lookT, SX.lookN, SX.findK, SX.evBuiltin, SX.ints, SX.foldI, SX.evBin, SX.evInt, SX.evStr, SX.evEq, SX.arith, SX.evLoad, SX.shapeUp, SX.evFieldAddr, SX.evField, SX.evIndexAddr, SX.evIndex, SX.evFill, SX.evBuild, SX.szs, SX.cellsV, SX.evNew, SX.evStore, SX.spliceL, SX.SV.cells, SX.evConv, SX.evSlice, SX.bnd, SX.evNil, SX.evUn, SX.evPick, SX.pickOpd, SX.popTo, SX.cnd, SX.env0, SX.TD.isAgg, SX.TD.isIface, SX.tails, SX.NotAgg, SX.evLookup, SX.evConvH, SX.evPtrEq, SX.isCells, SX.thaw, SX.frz, SX.fixB, SX.rootIx, SX.Froz, SX.frzStep, SX.fork, Go.Value.cells, Go.undef, cfg4, hF, hK1]
    refine ⟨by (unfold SX.Ob; first | trivial | omega | ((try simp only [SX.inK]); (try simp [SX.den, SX.IsU8, SX.AllP, *]); (try omega))), ?_⟩
    intro a5 w5 hr5 _
    exact post_retn (end1 hr5 rfl rfl ⟨rfl, hr5.keeps.toBelow⟩).1
  refine seg cfg4_ok mixed PanicFree.body 1000 [] [(24, false), (29, false)] h4 (by first | trivial | exact HpRep.nil | assumption) (by kernel_rfl) fun s_ hs_ => ?_
  simp (maxSteps := 10000000) [SX.vc, SX.stop, SX.contS, SX.contB, SX.contW, SX.contR, SX.contD, SX.sxStep, SX.stepPure, SX.stepNew, SX.stepStore, SX.stepKeep, SX.guardIx, SX.evOp, SX.opd, SX.opds, SX.optOpd, SX.look, SX.putS, SX.gobs, SX.AllP, SX.leave, SX.lookC, SX.lookB, SX.lookT, SX.lookN, SX.findK, SX.evBuiltin, SX.ints, SX.foldI, SX.evBin, SX.evInt, SX.evStr, SX.evEq, SX.arith, SX.evLoad, SX.shapeUp, SX.evFieldAddr, SX.evField, SX.evIndexAddr, SX.evIndex, SX.evFill, SX.evBuild, SX.szs, SX.cellsV, SX.evNew, SX.evStore, SX.spliceL, SX.SV.cells, SX.evConv, SX.evSlice, SX.bnd, SX.evNil, SX.evUn, SX.evPick, SX.pickOpd, SX.popTo, SX.cnd, SX.env0, SX.TD.isAgg, SX.TD.isIface, SX.tails, SX.NotAgg, SX.evLookup, SX.evConvH, SX.evPtrEq, SX.isCells, SX.thaw, SX.frz, SX.fixB, SX.rootIx, SX.Froz, SX.frzStep, SX.fork, Go.Value.cells, Go.undef, cfg4, hF, hK1, devC]
  refine ⟨by (unfold SX.Ob; first | trivial | omega | ((try simp only [SX.inK]); (try simp [SX.den, SX.IsU8, SX.AllP, *]); (try omega))), ?_⟩
  intro a5 w5 hr5 _
  refine post_call 14 [.ag [.v (.int .i64 d.cap), .v (.int .i64 d.op), .v (.int .i64 d.ac), .v (.slice ad d.Z.length cp)]] hr5 (by first | exact wanted_none rfl | exact wanted_zero (hr5.env.same rfl rfl rfl rfl) rfl (by simp) | exact wanted_zero (hr5.env.same rfl rfl rfl rfl) rfl (by simp [*])) rfl (callable 14 Try.func14) (check14_ok w5 _ d (hL.below hr5.keeps.toBelow) hn hl) ?_
  rintro e6 w6 ⟨rfl, hb6⟩
  refine ⟨_, rfl, ?_⟩
  have h6 := hr5.ret hb6 31 (.v (.int .i64 (devE d))) rfl _ (hr5.all.below hb6) (by simp) rfl
  by_cases hD : DevOK d
  rotate_left
  · have hd : devE d = 1 := if_neg hD
    refine seg cfg4_ok mixed PanicFree.body 1000 [true] [(24, false), (29, false), (34, true)] h6 (by first | trivial | exact HpRep.nil | assumption) (by kernel_rfl) fun s_ hs_ => ?_
    simp (maxSteps := 10000000) [SX.vc, SX.stop, SX.contS, SX.contB, SX.contW, SX.contR, SX.contD, SX.sxStep, SX.stepPure, SX.stepNew, SX.stepStore, SX.stepKeep, SX.guardIx, SX.evOp, SX.opd, SX.opds, SX.optOpd, SX.look, SX.putS, SX.gobs, SX.AllP, SX.leave, SX.lookC, SX.lookB, SX.lookT, SX.lookN, SX.findK, SX.evBuiltin, SX.ints, SX.foldI, SX.evBin, SX.evInt, SX.evStr, SX.evEq, SX.arith, SX.evLoad, SX.shapeUp, SX.evFieldAddr, SX.evField, SX.evIndexAddr, SX.evIndex, SX.evFill, SX.evBuild, SX.szs, SX.cellsV, SX.evNew, SX.evStore, SX.spliceL, SX.SV.cells, SX.evConv, SX.evSlice, SX.bnd, SX.evNil, SX.evUn, SX.evPick, SX.pickOpd, SX.popTo, SX.cnd, SX.env0, SX.TD.isAgg, SX.TD.isIface, SX.tails, SX.NotAgg, SX.evLookup, SX.evConvH, SX.evPtrEq, SX.isCells, SX.thaw, SX.frz, SX.fixB, SX.rootIx, SX.Froz, SX.frzStep, SX.fork, Go.Value.cells, Go.undef, cfg4, hd]
    refine ⟨by (unfold SX.Ob; first | trivial | omega | ((try simp only [SX.inK]); (try simp [SX.den, SX.IsU8, SX.AllP, *]); (try omega))), ?_⟩
    intro a7 w7 hr7 _
    exact post_retn (end1 hr7 rfl rfl ⟨rfl, hr7.keeps.toBelow⟩).1
  have hd : devE d = 0 := if_pos hD
  have hz64 := hD.1.2.1
  refine seg cfg4_ok mixed PanicFree.body 1000 [] [(24, false), (29, false), (34, false)] h6 (by first | trivial | exact HpRep.nil | assumption) (by kernel_rfl) fun s_ hs_ => ?_
  simp (maxSteps := 10000000) [SX.vc, SX.stop, SX.contS, SX.contB, SX.contW, SX.contR, SX.contD, SX.sxStep, SX.stepPure, SX.stepNew, SX.stepStore, SX.stepKeep, SX.guardIx, SX.evOp, SX.opd, SX.opds, SX.optOpd, SX.look, SX.putS, SX.gobs, SX.AllP, SX.leave, SX.lookC, SX.lookB, SX.lookT, SX.lookN, SX.findK, SX.evBuiltin, SX.ints, SX.foldI, SX.evBin, SX.evInt, SX.evStr, SX.evEq, SX.arith, SX.evLoad, SX.shapeUp, SX.evFieldAddr, SX.evField, SX.evIndexAddr, SX.evIndex, SX.evFill, SX.evBuild, SX.szs, SX.cellsV, SX.evNew, SX.evStore, SX.spliceL, SX.SV.cells, SX.evConv, SX.evSlice, SX.bnd, SX.evNil, SX.evUn, SX.evPick, SX.pickOpd, SX.popTo, SX.cnd, SX.env0, SX.TD.isAgg, SX.TD.isIface, SX.tails, SX.NotAgg, SX.evLookup, SX.evConvH, SX.evPtrEq, SX.isCells, SX.thaw, SX.frz, SX.fixB, SX.rootIx, SX.Froz, SX.frzStep, SX.fork, Go.Value.cells, Go.undef, cfg4, hd]
  refine ⟨by (unfold SX.Ob; first | trivial | omega | ((try simp only [SX.inK]); (try simp [SX.den, SX.IsU8, SX.AllP, *]); (try omega))), ?_⟩
  intro a7 w7 hr7 _
  refine post_call 15 [.v (.slice adm L.length cpm)] hr7 (by first | exact wanted_none rfl | exact wanted_zero (hr7.env.same rfl rfl rfl rfl) rfl (by simp) | exact wanted_zero (hr7.env.same rfl rfl rfl rfl) rfl (by simp [*])) rfl (callable 15 Try.func15) (rcheck_ok w7 _ L (hM.below hr7.keeps.toBelow) (by omega)) ?_
  rintro e8 w8 ⟨rfl, hb8⟩
  refine ⟨_, rfl, ?_⟩
  have h8 := hr7.ret hb8 36 (.v (.int .i64 (chkE L))) rfl _ (hr7.all.below hb8) (by simp) rfl
  by_cases hC : Chk L
  rotate_left
  · have hc : chkE L = 1 := if_neg hC
    refine seg cfg4_ok mixed PanicFree.body 1000 [true] [(24, false), (29, false), (34, false)] h8 (by first | trivial | exact HpRep.nil | assumption) (by kernel_rfl) fun s_ hs_ => ?_
    simp (maxSteps := 10000000) [SX.vc, SX.stop, SX.contS, SX.contB, SX.contW, SX.contR, SX.contD, SX.sxStep, SX.stepPure, SX.stepNew, SX.stepStore, SX.stepKeep, SX.guardIx, SX.evOp, SX.opd, SX.opds, SX.optOpd, SX.look, SX.putS, SX.gobs, SX.AllP, SX.leave, SX.lookC, SX.lookB, SX.lookT, SX.lookN, SX.findK, SX.evBuiltin, SX.ints, SX.foldI, SX.evBin, SX.evInt, SX.evStr, SX.evEq, SX.arith, SX.evLoad, SX.shapeUp, SX.evFieldAddr, SX.evField, SX.evIndexAddr, SX.evIndex, SX.evFill, SX.evBuild, SX.szs, SX.cellsV, SX.evNew, SX.evStore, SX.spliceL, SX.SV.cells, SX.evConv, SX.evSlice, SX.bnd, SX.evNil, SX.evUn, SX.evPick, SX.pickOpd, SX.popTo, SX.cnd, SX.env0, SX.TD.isAgg, SX.TD.isIface, SX.tails, SX.NotAgg, SX.evLookup, SX.evConvH, SX.evPtrEq, SX.isCells, SX.thaw, SX.frz, SX.fixB, SX.rootIx, SX.Froz, SX.frzStep, SX.fork, Go.Value.cells, Go.undef, cfg4, hc]
    refine ⟨by (unfold SX.Ob; first | trivial | omega | ((try simp only [SX.inK]); (try simp [SX.den, SX.IsU8, SX.AllP, *]); (try omega))), ?_⟩
    intro a9 w9 hr9 _
    exact post_retn (end1 hr9 rfl rfl ⟨rfl, hr9.keeps.toBelow⟩).1
  have hc : chkE L = 0 := if_pos hC
  have hS := sortC d.Z.length (by omega)
  refine seg cfg4_ok mixed PanicFree.body 1000 [false] [(24, false), (29, false), (34, false)] h8 (by first | trivial | exact HpRep.nil | assumption) (by kernel_rfl) fun s_ hs_ => ?_
  simp (maxSteps := 10000000) [SX.vc, SX.stop, SX.contS, SX.contB, SX.contW, SX.contR, SX.contD, SX.sxStep, SX.stepPure, SX.stepNew, SX.stepStore, SX.stepKeep, SX.guardIx, SX.evOp, SX.opd, SX.opds, SX.optOpd, SX.look, SX.putS, SX.gobs, SX.AllP, SX.leave, SX.lookC, SX.lookB, SX.lookT, SX.lookN, SX.findK, SX.evBuiltin, SX.ints, SX.foldI, SX.evBin, SX.evInt, SX.evStr, SX.evEq, SX.arith, SX.evLoad, SX.shapeUp, SX.evFieldAddr, SX.evField, SX.evIndexAddr, SX.evIndex, SX.evFill, SX.evBuild, SX.szs, SX.cellsV, SX.evNew, SX.evStore, SX.spliceL, SX.SV.cells, SX.evConv, SX.evSlice, SX.bnd, SX.evNil, SX.evUn, SX.evPick, SX.pickOpd, SX.popTo, SX.cnd, SX.env0, SX.TD.isAgg, SX.TD.isIface, SX.tails, SX.NotAgg, SX.evLookup, SX.evConvH, SX.evPtrEq, SX.isCells, SX.thaw, SX.frz, SX.fixB, SX.rootIx, SX.Froz, SX.frzStep, SX.fork, Go.Value.cells, Go.undef, cfg4, hc, devC]
  refine ⟨by (unfold SX.Ob; first | trivial | omega | ((try simp only [SX.inK]); (try simp [SX.den, SX.IsU8, SX.AllP, *]); (try omega))), ?_⟩
  intro a9 w9 hr9 _
  have z9 : w.heap.size ≤ w9.heap.size := hr9.keeps.size
  have k9 := SO.rep_lt hr9.all.1.1
  have hs4 : w.heap.size ≤ s4 := by
    rcases hr9.all.1.2.1 rfl with h | h
    · exact h
    · cases h
  refine post_call 16 [.v (.slice adm L.length cpm), .v (.int .i64 d.Z.length)] hr9 (by first | exact wanted_none rfl | exact wanted_zero (hr9.env.same rfl rfl rfl rfl) rfl (by simp) | exact wanted_zero (hr9.env.same rfl rfl rfl rfl) rfl (by simp [*])) rfl (callable 16 Try.func16) (Count_ok w9 _ L d.Z.length (hM.below hr9.keeps.toBelow) (by omega) hC hz64) ?_
  rintro e10 w10 ⟨vc, rfl, hO10, hb10⟩
  refine ⟨_, rfl, ?_⟩
  have h10 := hr9.ret hb10 45 (.tu [.v vc, .v (.int .i64 0)]) rfl _ (hr9.all.below hb10) (by simp) rfl
  obtain ⟨adc, cpc, hvc⟩ := hO10.slice
  rw [cnts_len] at hvc
  subst hvc
  have hO10' := hO10.mono (P' := fun x => w9.heap.size ≤ x ∧ x < w10.heap.size) fun x h1 h2 => ⟨h2, h1⟩
  refine seg cfg4_ok mixed PanicFree.body 1000 [false] [] h10.rebase (by first | trivial | exact HpRep.nil | assumption) (by kernel_rfl) fun s_ hs_ => ?_
  simp (maxSteps := 10000000) [SX.vc, SX.stop, SX.contS, SX.contB, SX.contW, SX.contR, SX.contD, SX.sxStep, SX.stepPure, SX.stepNew, SX.stepStore, SX.stepKeep, SX.guardIx, SX.evOp, SX.opd, SX.opds, SX.optOpd, SX.look, SX.putS, SX.gobs, SX.AllP, SX.leave, SX.lookC, SX.lookB, SX.lookT, SX.lookN, SX.findK, SX.evBuiltin, SX.ints, SX.foldI, SX.evBin, SX.evInt, SX.evStr, SX.evEq, SX.arith, SX.evLoad, SX.shapeUp, SX.evFieldAddr, SX.evField, SX.evIndexAddr, SX.evIndex, SX.evFill, SX.evBuild, SX.szs, SX.cellsV, SX.evNew, SX.evStore, SX.spliceL, SX.SV.cells, SX.evConv, SX.evSlice, SX.bnd, SX.evNil, SX.evUn, SX.evPick, SX.pickOpd, SX.popTo, SX.cnd, SX.env0, SX.TD.isAgg, SX.TD.isIface, SX.tails, SX.NotAgg, SX.evLookup, SX.evConvH, SX.evPtrEq, SX.isCells, SX.thaw, SX.frz, SX.fixB, SX.rootIx, SX.Froz, SX.frzStep, SX.fork, Go.Value.cells, Go.undef, cfg4, devC]
  refine ⟨by (unfold SX.Ob; first | trivial | omega | ((try simp only [SX.inK]); (try simp [SX.den, SX.IsU8, SX.AllP, *]); (try omega))), ?_⟩
  intro a11 w11 hr11' _
  have hO11 := hO10'.keep hr11'.keeps (by simp [frameAt, mutB]; omega)
  have hr11 := h10.unbase hr11'
  have z910 : w9.heap.size ≤ w10.heap.size := hb10.size
  have z1011 : w10.heap.size ≤ w11.heap.size := hr11'.keeps.size
  refine post_call 13 [.ag [.v (.int .i64 d.cap), .v (.int .i64 d.op), .v (.int .i64 d.ac), .v (.slice ad d.Z.length cp)], .v (.slice adm L.length cpm), .v (.slice adk K.length cpk)] hr11 (by first | exact wanted_none rfl | exact wanted_zero (hr11.env.same rfl rfl rfl rfl) rfl (by simp) | exact wanted_zero (hr11.env.same rfl rfl rfl rfl) rfl (by simp [*])) rfl (callable 13 Try.func13) (Victim_ok w11 _ _ _ d L K (hL.below hr11.keeps.toBelow) hn hl (hM.below hr11.keeps.toBelow) (by omega) (hK.below hr11.keeps.toBelow) hnK hS) ?_
  rintro e12 w12 ⟨R, rfl, hSt, hb12⟩
  refine ⟨_, rfl, ?_⟩
  have h12 := hr11.ret hb12 54 (.tu [.v (.int .i64 (nth (0 : Int) R 0)), .v (.bool (decide (R ≠ [])))]) rfl _ (hr11.all.below hb12) (by simp) rfl
  have hO12 := hO11.below hb12
  have hRl := hSt.len_le
  refine seg cfg4_ok mixed PanicFree.body 1000 [] [] h12.rebase (by first | trivial | exact HpRep.nil | assumption) (by kernel_rfl) fun s_ hs_ => ?_
  simp (maxSteps := 10000000) [SX.vc, SX.stop, SX.contS, SX.contB, SX.contW, SX.contR, SX.contD, SX.sxStep, SX.stepPure, SX.stepNew, SX.stepStore, SX.stepKeep, SX.guardIx, SX.evOp, SX.opd, SX.opds, SX.optOpd, SX.look, SX.putS, SX.gobs, SX.AllP, SX.leave, SX.lookC, SX.lookB, SX.lookT, SX.lookN, SX.findK, SX.evBuiltin, SX.ints, SX.foldI, SX.evBin, SX.evInt, SX.evStr, SX.evEq, SX.arith, SX.evLoad, SX.shapeUp, SX.evFieldAddr, SX.evField, SX.evIndexAddr, SX.evIndex, SX.evFill, SX.evBuild, SX.szs, SX.cellsV, SX.evNew, SX.evStore, SX.spliceL, SX.SV.cells, SX.evConv, SX.evSlice, SX.bnd, SX.evNil, SX.evUn, SX.evPick, SX.pickOpd, SX.popTo, SX.cnd, SX.env0, SX.TD.isAgg, SX.TD.isIface, SX.tails, SX.NotAgg, SX.evLookup, SX.evConvH, SX.evPtrEq, SX.isCells, SX.thaw, SX.frz, SX.fixB, SX.rootIx, SX.Froz, SX.frzStep, SX.fork, Go.Value.cells, Go.undef, cfg4, devC]
  refine ⟨by (unfold SX.Ob; first | trivial | omega | ((try simp only [SX.inK]); (try simp [SX.den, SX.IsU8, SX.AllP, *]); (try omega))), ?_⟩
  intro a13 w13 hr13' _
  have hO13 := hO12.keep hr13'.keeps (by simp [frameAt, mutB]; omega)
  have hr13 := h12.unbase hr13'
  have z1113 : w11.heap.size ≤ w13.heap.size := Nat.le_trans hb12.size hr13'.keeps.size
  refine post_call 10 [.ag [.v (.int .i64 d.cap), .v (.int .i64 d.op), .v (.int .i64 d.ac), .v (.slice ad d.Z.length cp)], .v (.slice adm L.length cpm), .v (.int .i64 want), .v (.slice adk K.length cpk)] hr13 (by first | exact wanted_none rfl | exact wanted_zero (hr13.env.same rfl rfl rfl rfl) rfl (by simp) | exact wanted_zero (hr13.env.same rfl rfl rfl rfl) rfl (by simp [*])) rfl (callable 10 Try.func10) (Plan_ok w13 _ _ _ d L want K (hL.below hr13.keeps.toBelow) hn hl (hM.below hr13.keeps.toBelow) (by omega) (hK.below hr13.keeps.toBelow) hnK hS) ?_
  rintro e14 w14 ⟨vp, R', rfl, hp14, hSt', hb14⟩
  refine ⟨_, rfl, ?_⟩
  have h14 := hr13.ret hb14 61 (.v vp) rfl _ (hr13.all.below hb14) (by simp) rfl
  obtain rfl : R' = R := hSt'.uniq hSt
  obtain ⟨p, hpe⟩ : ∃ p, R'.take (planN R'.length want) = p := ⟨_, rfl⟩
  rw [hpe] at hp14
  obtain ⟨adp, cpp, rfl⟩ := hp14.slice
  have hcp := hp14.cap rfl
  have hO14 := hO13.below hb14
  have hpl : p.length = min (planN R'.length want) R'.length := by rw [← hpe, List.length_take]
  have hpn : p.length ≤ 64 := by omega
  obtain ⟨q, hq⟩ : ∃ q, (if want < 0 then 0 else want) = q := ⟨_, rfl⟩
  have hgt : ¬ q < (p.length : Int) := by
    rw [← hq, hpl]
    unfold planN
    split <;> split <;> omega
  refine seg cfg4_ok mixed PanicFree.body 1000 [] [(67, false)] h14.rebase (by first | trivial | exact HpRep.nil | assumption) (by kernel_rfl) fun s_ hs_ => ?_
  simp (maxSteps := 10000000) [SX.vc, SX.stop, SX.contS, SX.contB, SX.contW, SX.contR, SX.contD, SX.sxStep, SX.stepPure, SX.stepNew, SX.stepStore, SX.stepKeep, SX.guardIx, SX.evOp, SX.opd, SX.opds, SX.optOpd, SX.look, SX.putS, SX.gobs, SX.AllP, SX.leave, SX.lookC, SX.lookB, SX.lookT, SX.lookN, SX.findK, SX.evBuiltin, SX.ints, SX.foldI, SX.evBin, SX.evInt, SX.evStr, SX.evEq, SX.arith, SX.evLoad, SX.shapeUp, SX.evFieldAddr, SX.evField, SX.evIndexAddr, SX.evIndex, SX.evFill, SX.evBuild, SX.szs, SX.cellsV, SX.evNew, SX.evStore, SX.spliceL, SX.SV.cells, SX.evConv, SX.evSlice, SX.bnd, SX.evNil, SX.evUn, SX.evPick, SX.pickOpd, SX.popTo, SX.cnd, SX.env0, SX.TD.isAgg, SX.TD.isIface, SX.tails, SX.NotAgg, SX.evLookup, SX.evConvH, SX.evPtrEq, SX.isCells, SX.thaw, SX.frz, SX.fixB, SX.rootIx, SX.Froz, SX.frzStep, SX.fork, Go.Value.cells, Go.undef, cfg4, hq, hgt, devC]
  refine ⟨by (unfold SX.Ob; first | trivial | omega | ((try simp only [SX.inK]); (try simp [SX.den, SX.IsU8, SX.AllP, *]); (try omega))), ?_⟩
  intro a15 w15 hr15' _
  have hO15 := hO14.keep hr15'.keeps (by simp [frameAt, mutB]; omega)
  have hp15 := hp14.keep hr15'.keeps (by simp [frameAt, mutB]; omega)
  have hr15 := h14.unbase hr15'
  refine post_call 10 [.ag [.v (.int .i64 d.cap), .v (.int .i64 d.op), .v (.int .i64 d.ac), .v (.slice ad d.Z.length cp)], .v (.slice adm L.length cpm), .v (.int .i64 1), .v (.slice adk K.length cpk)] hr15 (by first | exact wanted_none rfl | exact wanted_zero (hr15.env.same rfl rfl rfl rfl) rfl (by simp) | exact wanted_zero (hr15.env.same rfl rfl rfl rfl) rfl (by simp [*])) rfl (callable 10 Try.func10) (Plan_ok w15 _ _ _ d L 1 K (hL.below hr15.keeps.toBelow) hn hl (hM.below hr15.keeps.toBelow) (by omega) (hK.below hr15.keeps.toBelow) hnK hS) ?_
  rintro e16 w16 ⟨vp1, R1, rfl, hp16, hSt1, hb16⟩
  refine ⟨_, rfl, ?_⟩
  have h16 := hr15.ret hb16 72 (.v vp1) rfl _ (hr15.all.below hb16) (by simp) rfl
  obtain rfl : R1 = R' := hSt1.uniq hSt'
  have hO16 := hO15.below hb16
  have hp16b := hp15.below hb16
  obtain ⟨ad1, n1, cp1, rfl, hn1⟩ : ∃ ad n cp, vp1 = Value.slice ad n cp ∧ (R1.take (planN R1.length 1)).length = n := by
    obtain ⟨x1, x2, h1⟩ := hp16.slice
    exact ⟨_, _, _, h1, rfl⟩
  have hn1' : n1 = if R1 = [] then 0 else 1 := by
    rw [← hn1, List.length_take]
    rcases R1 with _ | ⟨r, R1⟩
    · simp
    · rw [if_neg (by simp)]
      unfold planN
      simp only [List.length_cons]
      split <;> omega
  have z1316 : w13.heap.size ≤ w16.heap.size := Nat.le_trans hb14.size (Nat.le_trans hr15'.keeps.size hb16.size)
  have hL16 := hL.below (show Below w.heap.size w w16 from h16.keeps.toBelow)
  have hK16 := hK.below (show Below w.heap.size w w16 from h16.keeps.toBelow)
  have h16i := h16.see _ (HpAll.imm h16.all)
  simp only [List.map_cons, List.map_nil] at h16i
  have hm0 : ∀ x ∈ R1, ∃ i : Nat, x = i ∧ i < d.Z.length ∧ vicP d L K i = true := fun x hx => by
    have h := hSt'.mem.1 hx
    rw [vicL, if_pos ⟨hD, hC⟩] at h
    exact mem_vicK.1 h
  have hmem : ∀ i : Nat, i < d.Z.length → vicP d L K i = true → (i : Int) ∈ R1 := fun i hi hv => hSt'.mem.2 (by
    rw [vicL, if_pos ⟨hD, hC⟩]
    exact mem_vicK.2 ⟨i, rfl, hi, hv⟩)
  have hnd : p.Nodup := by
    have h1 : R1.Nodup := (hSt'.perm.nodup_iff).2 (by
      rw [vicL, if_pos ⟨hD, hC⟩]
      exact vicK_nodup _ _ _ _)
    rw [← hpe]
    exact h1.sublist (List.take_sublist _ _)
  have hps : p.Pairwise fun x y => cntE L x.toNat ≤ cntE L y.toNat := by
    rw [← hpe]
    exact hSt'.2.2.sublist (List.take_sublist _ _)
  have hpm : ∀ x ∈ p, x ∈ R1 := fun x hx => by
    rw [← hpe] at hx
    exact List.mem_of_mem_take hx
  have hG := h16i.rebase
  refine post_cut (PlJ ⟨w16, w16.heap.size, []⟩ d s4 (.slice ad d.Z.length cp) (.slice adc d.Z.length cpc) (.slice adp p.length cpp) (.slice adk K.length cpk) (nth (0 : Int) R1 0) (decide (R1 ≠ []))) 2 rfl ?_ fun a17 w17 hJ => ?_
  · by_cases hR0 : R1 = []
    · have hdc : decide (R1 ≠ []) = false := by simp [hR0]
      rw [if_pos hR0] at hn1'
      subst hn1'
      by_cases hw0 : 0 < want
      · refine seg cfg4_ok mixed PanicFree.body 1000 [false] [(67, false), (77, false), (80, true), (83, false)] hG (by first | trivial | exact HpRep.nil | assumption) (by kernel_rfl) fun s_ hs_ => ?_
        simp (maxSteps := 10000000) [SX.vc, SX.stop, SX.contS, SX.contB, SX.contW, SX.contR, SX.contD, SX.sxStep, SX.stepPure, SX.stepNew, SX.stepStore, SX.stepKeep, SX.guardIx, SX.evOp, SX.opd, SX.opds, SX.optOpd, SX.look, SX.putS, SX.gobs, SX.AllP, SX.leave, SX.lookC, SX.lookB, SX.lookT, SX.lookN, SX.findK, SX.evBuiltin, SX.ints, SX.foldI, SX.evBin, SX.evInt, SX.evStr, SX.evEq, SX.arith, SX.evLoad, SX.shapeUp, SX.evFieldAddr, SX.evField, SX.evIndexAddr, SX.evIndex, SX.evFill, SX.evBuild, SX.szs, SX.cellsV, SX.evNew, SX.evStore, SX.spliceL, SX.SV.cells, SX.evConv, SX.evSlice, SX.bnd, SX.evNil, SX.evUn, SX.evPick, SX.pickOpd, SX.popTo, SX.cnd, SX.env0, SX.TD.isAgg, SX.TD.isIface, SX.tails, SX.NotAgg, SX.evLookup, SX.evConvH, SX.evPtrEq, SX.isCells, SX.thaw, SX.frz, SX.fixB, SX.rootIx, SX.Froz, SX.frzStep, SX.fork, Go.Value.cells, Go.undef, cfg4, hR0, hw0]
        refine ⟨by (unfold SX.Ob; first | trivial | omega | ((try simp only [SX.inK]); (try simp [SX.den, SX.IsU8, SX.AllP, *]); (try omega))), ?_⟩
        intro a18 w18 hr18 _
        exact post_inv (hr18.re (by simp [envTo, SX.look, den, hR0]) hr18.all rfl rfl)
      · refine seg cfg4_ok mixed PanicFree.body 1000 [false] [(67, false), (77, false), (80, false), (83, false)] hG (by first | trivial | exact HpRep.nil | assumption) (by kernel_rfl) fun s_ hs_ => ?_
        simp (maxSteps := 10000000) [SX.vc, SX.stop, SX.contS, SX.contB, SX.contW, SX.contR, SX.contD, SX.sxStep, SX.stepPure, SX.stepNew, SX.stepStore, SX.stepKeep, SX.guardIx, SX.evOp, SX.opd, SX.opds, SX.optOpd, SX.look, SX.putS, SX.gobs, SX.AllP, SX.leave, SX.lookC, SX.lookB, SX.lookT, SX.lookN, SX.findK, SX.evBuiltin, SX.ints, SX.foldI, SX.evBin, SX.evInt, SX.evStr, SX.evEq, SX.arith, SX.evLoad, SX.shapeUp, SX.evFieldAddr, SX.evField, SX.evIndexAddr, SX.evIndex, SX.evFill, SX.evBuild, SX.szs, SX.cellsV, SX.evNew, SX.evStore, SX.spliceL, SX.SV.cells, SX.evConv, SX.evSlice, SX.bnd, SX.evNil, SX.evUn, SX.evPick, SX.pickOpd, SX.popTo, SX.cnd, SX.env0, SX.TD.isAgg, SX.TD.isIface, SX.tails, SX.NotAgg, SX.evLookup, SX.evConvH, SX.evPtrEq, SX.isCells, SX.thaw, SX.frz, SX.fixB, SX.rootIx, SX.Froz, SX.frzStep, SX.fork, Go.Value.cells, Go.undef, cfg4, hR0, hw0]
        refine ⟨by (unfold SX.Ob; first | trivial | omega | ((try simp only [SX.inK]); (try simp [SX.den, SX.IsU8, SX.AllP, *]); (try omega))), ?_⟩
        intro a18 w18 hr18 _
        exact post_inv (hr18.re (by simp [envTo, SX.look, den, hR0]) hr18.all rfl rfl)
    · have hdc : decide (R1 ≠ []) = true := by simp [hR0]
      rw [if_neg hR0] at hn1'
      subst hn1'
      by_cases hw0 : 0 < want
      · have hp0 : 0 < p.length := by
          have := List.length_pos_iff.2 hR0
          rw [hpl]
          unfold planN
          split <;> omega
        have hpz : ((p.length : Int) == 0) = false := by rw [beq_eq_false_iff_ne]; omega
        obtain ⟨bp, op, capp, up, fzp, hPp, hvp, hrepp⟩ := hp16b.opn hp0
        cases hvp
        obtain ⟨np, hnp⟩ : ∃ np, p.length = np := ⟨_, rfl⟩
        have hpx : nth (0 : Int) p 0 = nth (0 : Int) R1 0 := by
          rw [nth_lt hp0, nth_lt (List.length_pos_iff.2 hR0)]
          simp only [← hpe, List.getElem_take]
        obtain ⟨x0, hx0⟩ : ∃ x0, nth (0 : Int) R1 0 = x0 := ⟨_, rfl⟩
        rw [hx0] at hpx
        have hA16 := hG.all.1
        have hG2 := (hG.top 14 (.sl 1 bp op 0 p.length cpp 1) rfl (by simp [den])).see [(s4, false, .cells [.v (.int .i64 d.cap), .v (.int .i64 d.op), .v (.int .i64 d.ac), .v (.slice ad d.Z.length cp)] 24), (bp, false, .arr op p.length (fun j => intC (nth (0 : Int) p j)) 1 up fzp)] ⟨⟨hA16.1, by simp, by simp; omega⟩, HpAll.one hrepp⟩
        refine seg cfg4_ok mixed PanicFree.body 1000 [false] [(67, false), (77, false), (80, true), (83, true), (87, false)] hG2 (by first | trivial | exact HpRep.nil | assumption) (by kernel_rfl) fun s_ hs_ => ?_
        simp (maxSteps := 10000000) [SX.vc, SX.stop, SX.contS, SX.contB, SX.contW, SX.contR, SX.contD, SX.sxStep, SX.stepPure, SX.stepNew, SX.stepStore, SX.stepKeep, SX.guardIx, SX.evOp, SX.opd, SX.opds, SX.optOpd, SX.look, SX.putS, SX.gobs, SX.AllP, SX.leave, SX.lookC, SX.lookB, SX.lookT, SX.lookN, SX.findK, SX.evBuiltin, SX.ints, SX.foldI, SX.evBin, SX.evInt, SX.evStr, SX.evEq, SX.arith, SX.evLoad, SX.shapeUp, SX.evFieldAddr, SX.evField, SX.evIndexAddr, SX.evIndex, SX.evFill, SX.evBuild, SX.szs, SX.cellsV, SX.evNew, SX.evStore, SX.spliceL, SX.SV.cells, SX.evConv, SX.evSlice, SX.bnd, SX.evNil, SX.evUn, SX.evPick, SX.pickOpd, SX.popTo, SX.cnd, SX.env0, SX.TD.isAgg, SX.TD.isIface, SX.tails, SX.NotAgg, SX.evLookup, SX.evConvH, SX.evPtrEq, SX.isCells, SX.thaw, SX.frz, SX.fixB, SX.rootIx, SX.Froz, SX.frzStep, SX.fork, Go.Value.cells, Go.undef, cfg4, hR0, hw0, hpz, hp0, intC, hpx, hx0]
        refine ⟨by (unfold SX.Ob; first | trivial | omega | ((try simp only [SX.inK]); (try simp [SX.den, SX.IsU8, SX.AllP, *]); (try omega))), ?_⟩
        intro a18 w18 hr18 _
        exact post_inv (hr18.re (by simp [envTo, SX.look, den, hR0, hx0]) ⟨⟨hr18.all.1.1, by simp, by simp⟩, trivial⟩ rfl rfl)
      · refine seg cfg4_ok mixed PanicFree.body 1000 [false] [(67, false), (77, false), (80, false), (83, false)] hG (by first | trivial | exact HpRep.nil | assumption) (by kernel_rfl) fun s_ hs_ => ?_
        simp (maxSteps := 10000000) [SX.vc, SX.stop, SX.contS, SX.contB, SX.contW, SX.contR, SX.contD, SX.sxStep, SX.stepPure, SX.stepNew, SX.stepStore, SX.stepKeep, SX.guardIx, SX.evOp, SX.opd, SX.opds, SX.optOpd, SX.look, SX.putS, SX.gobs, SX.AllP, SX.leave, SX.lookC, SX.lookB, SX.lookT, SX.lookN, SX.findK, SX.evBuiltin, SX.ints, SX.foldI, SX.evBin, SX.evInt, SX.evStr, SX.evEq, SX.arith, SX.evLoad, SX.shapeUp, SX.evFieldAddr, SX.evField, SX.evIndexAddr, SX.evIndex, SX.evFill, SX.evBuild, SX.szs, SX.cellsV, SX.evNew, SX.evStore, SX.spliceL, SX.SV.cells, SX.evConv, SX.evSlice, SX.bnd, SX.evNil, SX.evUn, SX.evPick, SX.pickOpd, SX.popTo, SX.cnd, SX.env0, SX.TD.isAgg, SX.TD.isIface, SX.tails, SX.NotAgg, SX.evLookup, SX.evConvH, SX.evPtrEq, SX.isCells, SX.thaw, SX.frz, SX.fixB, SX.rootIx, SX.Froz, SX.frzStep, SX.fork, Go.Value.cells, Go.undef, cfg4, hR0, hw0]
        refine ⟨by (unfold SX.Ob; first | trivial | omega | ((try simp only [SX.inK]); (try simp [SX.den, SX.IsU8, SX.AllP, *]); (try omega))), ?_⟩
        intro a18 w18 hr18 _
        exact post_inv (hr18.re (by simp [envTo, SX.look, den, hR0]) hr18.all rfl rfl)
  · have hJ2 := hJ
    unfold PlJ at hJ2
    have hb17 := hJ2.keeps.toBelow
    refine seg cfg4_ok mixed PanicFree.body 1000 [] [] hJ2 (by first | trivial | exact HpRep.nil | assumption) (by kernel_rfl) fun s_ hs_ => ?_
    simp (maxSteps := 10000000) [SX.vc, SX.stop, SX.contS, SX.contB, SX.contW, SX.contR, SX.contD, SX.sxStep, SX.stepPure, SX.stepNew, SX.stepStore, SX.stepKeep, SX.guardIx, SX.evOp, SX.opd, SX.opds, SX.optOpd, SX.look, SX.putS, SX.gobs, SX.AllP, SX.leave, SX.lookC, SX.lookB, SX.lookT, SX.lookN, SX.findK, SX.evBuiltin, SX.ints, SX.foldI, SX.evBin, SX.evInt, SX.evStr, SX.evEq, SX.arith, SX.evLoad, SX.shapeUp, SX.evFieldAddr, SX.evField, SX.evIndexAddr, SX.evIndex, SX.evFill, SX.evBuild, SX.szs, SX.cellsV, SX.evNew, SX.evStore, SX.spliceL, SX.SV.cells, SX.evConv, SX.evSlice, SX.bnd, SX.evNil, SX.evUn, SX.evPick, SX.pickOpd, SX.popTo, SX.cnd, SX.env0, SX.TD.isAgg, SX.TD.isIface, SX.tails, SX.NotAgg, SX.evLookup, SX.evConvH, SX.evPtrEq, SX.isCells, SX.thaw, SX.frz, SX.fixB, SX.rootIx, SX.Froz, SX.frzStep, SX.fork, Go.Value.cells, Go.undef, cfg4]
    refine ⟨by (unfold SX.Ob; first | trivial | omega | ((try simp only [SX.inK]); (try simp [SX.den, SX.IsU8, SX.AllP, *]); (try omega))), ?_⟩
    intro a18 w18 hr18 _
    obtain ⟨x0, hx0⟩ : ∃ x0, nth (0 : Int) R1 0 = x0 := ⟨_, rfl⟩
    have hcap2 := hcp
    refine post_loop (PlLoop1 ⟨w16, w16.heap.size, []⟩ d p.length s4 (.slice ad d.Z.length cp) (.slice adc d.Z.length cpc) (.slice adp p.length cpp) (.slice adk K.length cpk) (nth (0 : Int) R1 0) (decide (R1 ≠ []))) p.length ⟨0, rfl, by omega, hr18.re (by simp [envTo, SX.look]) ⟨⟨hr18.all.1.1, by simp, by simp⟩, trivial⟩ rfl rfl⟩ ?_
    clear hr hr1 h2 hr3 h4 hr5 h6 hr7 h8 hr9 h10 hr11' hr11 h12 hr13' hr13 h14 hr15' hr15 h16 hG hJ hJ2 hr18
    rintro m a20 w20 ⟨k, rfl, hk, hr20⟩
    have hb20 := hr20.keeps.toBelow
    have hA20 := hr20.all.1
    by_cases hlt : k < p.length
    · obtain ⟨x, hx⟩ : ∃ x, nth (0 : Int) p k = x := ⟨_, rfl⟩
      have hxp : x ∈ p := hx ▸ nth_mem hlt
      obtain ⟨j, rfl, hj, hvj⟩ := hm0 x (hpm x hxp)
      obtain ⟨z, hz⟩ : ∃ z, nth zon0 d.Z j = z := ⟨_, rfl⟩
      have hzm : z ∈ d.Z := hz ▸ nth_mem hj
      have hzn := hl z hzm
      simp only [vicP, decide_eq_true_eq, hz] at hvj
      obtain ⟨hst, hcw, hnK⟩ := hvj
      obtain ⟨c, hce⟩ : ∃ c, cntE L j = c := ⟨_, rfl⟩
      have hrc : nth (0 : Int) (cnts L d.Z.length) j = c := (nth_cnts hj).trans hce
      rw [hce] at hcw
      have hcw' : ¬ whl z ≤ c := by omega
      have hwq : (z.n : Int).tdiv 16 = whl z := by rw [whl, Int.ofNat_tdiv]; rfl
      have hwx : 0 ≤ whl z ∧ whl z ≤ 1000000000000000 := by unfold whl; omega
      have hnt : (j : Int) ∉ (p.drop 0).take k := by
        rw [List.drop_zero, ← hx]
        exact not_mem_take hnd hlt
      obtain ⟨b, o0, cap, u, fz, hP, hv, hrep⟩ := (hL16.below hb20).opn hj
      obtain ⟨bc, oc, capc, uc, fzc, hPc, hvc, hrepc⟩ := (hO16.below hb20).opn (show j < (cnts L d.Z.length).length by rw [cnts_len]; exact hj)
      obtain ⟨bp, op, capp, up, fzp, hPp, hvp, hrepp⟩ := (hp16b.below hb20).opn hlt
      cases hv
      rw [cnts_len] at hvc
      cases hvc
      cases hvp
      have hj0 : ¬ (j : Int) < 0 := by omega
      have hjn : ¬ (d.Z.length : Int) ≤ (j : Int) := by omega
      have hjc : j < (cnts L d.Z.length).length := by rw [cnts_len]; exact hj
      have hcl := cnts_len L d.Z.length
      have h21 := (((hr20.top 96 (.sl 3 bp op 0 p.length cpp 1) rfl (by simp [den])).top 14 (.sl 3 bp op 0 p.length cpp 1) rfl (by simp [den])).top 10 (.sl 2 bc oc 0 d.Z.length cpc 1) rfl (by simp [den])).see [(s4, false, .cells [.v (.int .i64 d.cap), .v (.int .i64 d.op), .v (.int .i64 d.ac), .sl 1 b o0 0 d.Z.length cp 3] 24), (b, false, .arr o0 d.Z.length (fun j => znC (nth zon0 d.Z j)) 3 u fz), (bc, false, .arr oc (cnts L d.Z.length).length (fun j => intC (nth (0 : Int) (cnts L d.Z.length) j)) 1 uc fzc), (bp, false, .arr op p.length (fun j => intC (nth (0 : Int) p j)) 1 up fzp)] ⟨⟨by simpa [SO.rep, denL, den, devC] using hA20, by simp, by simp; omega⟩, ⟨hrep, by simp, by simp; omega⟩, ⟨hrepc, by simp, by simp; omega⟩, HpAll.one hrepp⟩
      refine seg cfg4_ok mixed PanicFree.body 1000 [true] [(105, false), (112, false), (121, false)] h21 (by first | trivial | exact HpRep.nil | assumption) (by kernel_rfl) fun s_ hs_ => ?_
      simp (maxSteps := 10000000) [SX.vc, SX.stop, SX.contS, SX.contB, SX.contW, SX.contR, SX.contD, SX.sxStep, SX.stepPure, SX.stepNew, SX.stepStore, SX.stepKeep, SX.guardIx, SX.evOp, SX.opd, SX.opds, SX.optOpd, SX.look, SX.putS, SX.gobs, SX.AllP, SX.leave, SX.lookC, SX.lookB, SX.lookT, SX.lookN, SX.findK, SX.evBuiltin, SX.ints, SX.foldI, SX.evBin, SX.evInt, SX.evStr, SX.evEq, SX.arith, SX.evLoad, SX.shapeUp, SX.evFieldAddr, SX.evField, SX.evIndexAddr, SX.evIndex, SX.evFill, SX.evBuild, SX.szs, SX.cellsV, SX.evNew, SX.evStore, SX.spliceL, SX.SV.cells, SX.evConv, SX.evSlice, SX.bnd, SX.evNil, SX.evUn, SX.evPick, SX.pickOpd, SX.popTo, SX.cnd, SX.env0, SX.TD.isAgg, SX.TD.isIface, SX.tails, SX.NotAgg, SX.evLookup, SX.evConvH, SX.evPtrEq, SX.isCells, SX.thaw, SX.frz, SX.fixB, SX.rootIx, SX.Froz, SX.frzStep, SX.fork, Go.Value.cells, Go.undef, cfg4, intC, hx, hj0, hjn, znC, hz, hst, hj]
      refine ⟨by (unfold SX.Ob; first | trivial | omega | ((try simp only [SX.inK]); (try simp [SX.den, SX.IsU8, SX.AllP, *]); (try omega))), ?_⟩
      intro a22 w22 hr22 ht22
      refine post_callD 11 [.v (.slice adk K.length cpk), .v (.int .i64 j)] hr22 rfl (by first | exact wanted_none rfl | exact wanted_zero (hr22.env.same rfl rfl rfl rfl) rfl (by simp) | exact wanted_zero (hr22.env.same rfl rfl rfl rfl) rfl (by simp [*])) rfl (callable 11 Try.func11) (rin_ok w22 _ K j (hK16.below hr22.keeps.toBelow) (by omega)) ?_
      rintro e23 w23 ⟨rfl, hb23⟩
      have ht23 := HpRep_below ht22 hb23
      refine ⟨_, rfl, ht23, ?_⟩
      have hr23 := hr22.ret hb23 124 (.v (.bool (decide ((j : Int) ∈ K)))) rfl _ (hr22.all.below hb23) (by simp) rfl
      refine seg cfg4_ok mixed PanicFree.body 1000 [] [(105, false), (112, false), (121, false), (126, false)] hr23 (by first | trivial | exact HpRep.nil | assumption) (by kernel_rfl) fun s_ hs_ => ?_
      simp (maxSteps := 10000000) [SX.vc, SX.stop, SX.contS, SX.contB, SX.contW, SX.contR, SX.contD, SX.sxStep, SX.stepPure, SX.stepNew, SX.stepStore, SX.stepKeep, SX.guardIx, SX.evOp, SX.opd, SX.opds, SX.optOpd, SX.look, SX.putS, SX.gobs, SX.AllP, SX.leave, SX.lookC, SX.lookB, SX.lookT, SX.lookN, SX.findK, SX.evBuiltin, SX.ints, SX.foldI, SX.evBin, SX.evInt, SX.evStr, SX.evEq, SX.arith, SX.evLoad, SX.shapeUp, SX.evFieldAddr, SX.evField, SX.evIndexAddr, SX.evIndex, SX.evFill, SX.evBuild, SX.szs, SX.cellsV, SX.evNew, SX.evStore, SX.spliceL, SX.SV.cells, SX.evConv, SX.evSlice, SX.bnd, SX.evNil, SX.evUn, SX.evPick, SX.pickOpd, SX.popTo, SX.cnd, SX.env0, SX.TD.isAgg, SX.TD.isIface, SX.tails, SX.NotAgg, SX.evLookup, SX.evConvH, SX.evPtrEq, SX.isCells, SX.thaw, SX.frz, SX.fixB, SX.rootIx, SX.Froz, SX.frzStep, SX.fork, Go.Value.cells, Go.undef, cfg4, hnK]
      refine ⟨by (unfold SX.Ob; first | trivial | omega | ((try simp only [SX.inK]); (try simp [SX.den, SX.IsU8, SX.AllP, *]); (try omega))), ?_⟩
      intro a24 w24 hr24 ht24
      have hpt : RdI (fun x => w13.heap.size ≤ x) w24 (.slice (some ⟨bp, op + 0 * 1, none⟩) k cpp) ((p.drop 0).take k) := RdS.part hPp rfl hr24.all.2.2.2.1.1 (by omega) (by omega)
      have hlen : ((p.drop 0).take k).length ≤ 1000000000000000 := by simp; omega
      refine post_callD 11 [.sl 3 bp op 0 k cpp 1, .v (.int .i64 j)] hr24 rfl (by first | exact wanted_none rfl | exact wanted_zero (hr24.env.same rfl rfl rfl rfl) rfl (by simp) | exact wanted_zero (hr24.env.same rfl rfl rfl rfl) rfl (by simp [*])) rfl (callable 11 Try.func11) (rin_ok w24 _ ((p.drop 0).take k) j hpt hlen) ?_
      rintro e25 w25 ⟨rfl, hb25⟩
      have ht25 := HpRep_below ht24 hb25
      refine ⟨_, rfl, ht25, ?_⟩
      have hr25 := hr24.ret hb25 131 (.v (.bool (decide ((j : Int) ∈ (p.drop 0).take k)))) rfl _ (hr24.all.below hb25) (by simp) rfl
      have hjN : j < (cnts L d.Z.length).length := hjc
      rcases k with _ | k
      · refine seg cfg4_ok mixed PanicFree.body 1000 [false] [(105, false), (112, false), (121, false), (126, false), (133, false), (148, false), (151, false)] hr25 (by first | trivial | exact HpRep.nil | assumption) (by kernel_rfl) fun s_ hs_ => ?_
        simp (maxSteps := 10000000) [SX.vc, SX.stop, SX.contS, SX.contB, SX.contW, SX.contR, SX.contD, SX.sxStep, SX.stepPure, SX.stepNew, SX.stepStore, SX.stepKeep, SX.guardIx, SX.evOp, SX.opd, SX.opds, SX.optOpd, SX.look, SX.putS, SX.gobs, SX.AllP, SX.leave, SX.lookC, SX.lookB, SX.lookT, SX.lookN, SX.findK, SX.evBuiltin, SX.ints, SX.foldI, SX.evBin, SX.evInt, SX.evStr, SX.evEq, SX.arith, SX.evLoad, SX.shapeUp, SX.evFieldAddr, SX.evField, SX.evIndexAddr, SX.evIndex, SX.evFill, SX.evBuild, SX.szs, SX.cellsV, SX.evNew, SX.evStore, SX.spliceL, SX.SV.cells, SX.evConv, SX.evSlice, SX.bnd, SX.evNil, SX.evUn, SX.evPick, SX.pickOpd, SX.popTo, SX.cnd, SX.env0, SX.TD.isAgg, SX.TD.isIface, SX.tails, SX.NotAgg, SX.evLookup, SX.evConvH, SX.evPtrEq, SX.isCells, SX.thaw, SX.frz, SX.fixB, SX.rootIx, SX.Froz, SX.frzStep, SX.fork, Go.Value.cells, Go.undef, cfg4, hnt, intC, hrc, hcw', hwq, znC, hz, hj, hjN, hcl]
        refine ⟨by (unfold SX.Ob; first | trivial | omega | ((try simp only [SX.inK]); (try simp [SX.den, SX.IsU8, SX.AllP, *]); (try omega))), ?_⟩
        intro a26 w26 hr26 _
        exact post_rnd (p.length - (0 + 1)) (by omega) ⟨0 + 1, rfl, by omega, hr26.re (by simp [envTo, SX.look, den]) ⟨⟨by simpa [SO.rep, denL, den, devC] using hr26.all.1.1, by simp, by simp⟩, trivial⟩ rfl rfl⟩
      · obtain ⟨j2, hy, hj2, _⟩ := hm0 (nth (0 : Int) p k) (hpm _ (nth_mem (show k < p.length by omega)))
        obtain ⟨c2, hce2⟩ : ∃ c, cntE L j2 = c := ⟨_, rfl⟩
        have hrc2 : nth (0 : Int) (cnts L d.Z.length) j2 = c2 := (nth_cnts hj2).trans hce2
        have hj2c : j2 < (cnts L d.Z.length).length := by rw [cnts_len]; exact hj2
        have hkp : k < p.length := by omega
        have hcc : ¬ c < c2 := by
          have h := List.pairwise_iff_getElem.1 hps k (k + 1) hkp hlt (by omega)
          rw [nth_lt hkp] at hy
          rw [nth_lt hlt] at hx
          rw [hx, hy, Int.toNat_natCast, Int.toNat_natCast, hce, hce2] at h
          omega
        have hk1 : (0 : Int) < (k : Int) + 1 := by omega
        have hnt2 : (j : Int) ∉ p.take (k + 1) := by simpa using hnt
        refine seg cfg4_ok mixed PanicFree.body 1000 [false] [(105, false), (112, false), (121, false), (126, false), (133, false), (148, false), (151, true)] hr25 (by first | trivial | exact HpRep.nil | assumption) (by kernel_rfl) fun s_ hs_ => ?_
        simp (maxSteps := 10000000) [SX.vc, SX.stop, SX.contS, SX.contB, SX.contW, SX.contR, SX.contD, SX.sxStep, SX.stepPure, SX.stepNew, SX.stepStore, SX.stepKeep, SX.guardIx, SX.evOp, SX.opd, SX.opds, SX.optOpd, SX.look, SX.putS, SX.gobs, SX.AllP, SX.leave, SX.lookC, SX.lookB, SX.lookT, SX.lookN, SX.findK, SX.evBuiltin, SX.ints, SX.foldI, SX.evBin, SX.evInt, SX.evStr, SX.evEq, SX.arith, SX.evLoad, SX.shapeUp, SX.evFieldAddr, SX.evField, SX.evIndexAddr, SX.evIndex, SX.evFill, SX.evBuild, SX.szs, SX.cellsV, SX.evNew, SX.evStore, SX.spliceL, SX.SV.cells, SX.evConv, SX.evSlice, SX.bnd, SX.evNil, SX.evUn, SX.evPick, SX.pickOpd, SX.popTo, SX.cnd, SX.env0, SX.TD.isAgg, SX.TD.isIface, SX.tails, SX.NotAgg, SX.evLookup, SX.evConvH, SX.evPtrEq, SX.isCells, SX.thaw, SX.frz, SX.fixB, SX.rootIx, SX.Froz, SX.frzStep, SX.fork, Go.Value.cells, Go.undef, cfg4, hnt, hnt2, intC, hrc, hcw', hwq, znC, hz, hj, hjN, hcl, hy, hrc2, hj2c, hkp, hcc, hk1, hj2]
        refine ⟨by (unfold SX.Ob; first | trivial | omega | ((try simp only [SX.inK]); (try simp [SX.den, SX.IsU8, SX.AllP, *]); (try omega))), ?_⟩
        intro a26 w26 hr26 _
        exact post_rnd (p.length - (k + 1 + 1)) (by omega) ⟨k + 1 + 1, rfl, by omega, hr26.re (by simp [envTo, SX.look, den]) ⟨⟨by simpa [SO.rep, denL, den, devC] using hr26.all.1.1, by simp, by simp⟩, trivial⟩ rfl rfl⟩
    obtain rfl : k = p.length := by omega
    by_cases hR0 : R1 = []
    · refine seg cfg4_ok mixed PanicFree.body 1000 [false, true] [] hr20 (by first | trivial | exact HpRep.nil | assumption) (by kernel_rfl) fun s_ hs_ => ?_
      simp (maxSteps := 10000000) [SX.vc, SX.stop, SX.contS, SX.contB, SX.contW, SX.contR, SX.contD, SX.sxStep, SX.stepPure, SX.stepNew, SX.stepStore, SX.stepKeep, SX.guardIx, SX.evOp, SX.opd, SX.opds, SX.optOpd, SX.look, SX.putS, SX.gobs, SX.AllP, SX.leave, SX.lookC, SX.lookB, SX.lookT, SX.lookN, SX.findK, SX.evBuiltin, SX.ints, SX.foldI, SX.evBin, SX.evInt, SX.evStr, SX.evEq, SX.arith, SX.evLoad, SX.shapeUp, SX.evFieldAddr, SX.evField, SX.evIndexAddr, SX.evIndex, SX.evFill, SX.evBuild, SX.szs, SX.cellsV, SX.evNew, SX.evStore, SX.spliceL, SX.SV.cells, SX.evConv, SX.evSlice, SX.bnd, SX.evNil, SX.evUn, SX.evPick, SX.pickOpd, SX.popTo, SX.cnd, SX.env0, SX.TD.isAgg, SX.TD.isIface, SX.tails, SX.NotAgg, SX.evLookup, SX.evConvH, SX.evPtrEq, SX.isCells, SX.thaw, SX.frz, SX.fixB, SX.rootIx, SX.Froz, SX.frzStep, SX.fork, Go.Value.cells, Go.undef, cfg4, hR0]
      refine ⟨by (unfold SX.Ob; first | trivial | omega | ((try simp only [SX.inK]); (try simp [SX.den, SX.IsU8, SX.AllP, *]); (try omega))), ?_⟩
      intro a22 w22 hr22 _
      have hr23 := h16i.unbase hr22
      exact post_retn (end1 hr23 rfl rfl ⟨rfl, hr23.keeps.toBelow⟩).1
    have hR1p := List.length_pos_iff.2 hR0
    obtain ⟨jv, hv0, hjv, _⟩ := hm0 (nth (0 : Int) R1 0) (nth_mem hR1p)
    obtain ⟨cv, hcev⟩ : ∃ c, cntE L jv = c := ⟨_, rfl⟩
    have hrcv : nth (0 : Int) (cnts L d.Z.length) jv = cv := (nth_cnts hjv).trans hcev
    have hjvc : jv < (cnts L d.Z.length).length := by rw [cnts_len]; exact hjv
    have hbest : ∀ i : Nat, (i : Int) ∈ R1 → cv ≤ cntE L i := fun i hi => by
      obtain ⟨q, hq1, hq2⟩ := List.mem_iff_getElem.1 hi
      rw [nth_lt hR1p] at hv0
      rcases Nat.eq_zero_or_pos q with h0 | h0
      · subst h0
        rw [hv0] at hq2
        rw [show i = jv by omega, hcev]
        exact Int.le_refl _
      · have h := List.pairwise_iff_getElem.1 hSt'.2.2 0 q hR1p hq1 h0
        rw [hv0, hq2] at h
        simp only [Int.toNat_natCast, hcev] at h
        exact h
    refine seg cfg4_ok mixed PanicFree.body 1000 [false, false] [] hr20 (by first | trivial | exact HpRep.nil | assumption) (by kernel_rfl) fun s_ hs_ => ?_
    simp (maxSteps := 10000000) [SX.vc, SX.stop, SX.contS, SX.contB, SX.contW, SX.contR, SX.contD, SX.sxStep, SX.stepPure, SX.stepNew, SX.stepStore, SX.stepKeep, SX.guardIx, SX.evOp, SX.opd, SX.opds, SX.optOpd, SX.look, SX.putS, SX.gobs, SX.AllP, SX.leave, SX.lookC, SX.lookB, SX.lookT, SX.lookN, SX.findK, SX.evBuiltin, SX.ints, SX.foldI, SX.evBin, SX.evInt, SX.evStr, SX.evEq, SX.arith, SX.evLoad, SX.shapeUp, SX.evFieldAddr, SX.evField, SX.evIndexAddr, SX.evIndex, SX.evFill, SX.evBuild, SX.szs, SX.cellsV, SX.evNew, SX.evStore, SX.spliceL, SX.SV.cells, SX.evConv, SX.evSlice, SX.bnd, SX.evNil, SX.evUn, SX.evPick, SX.pickOpd, SX.popTo, SX.cnd, SX.env0, SX.TD.isAgg, SX.TD.isIface, SX.tails, SX.NotAgg, SX.evLookup, SX.evConvH, SX.evPtrEq, SX.isCells, SX.thaw, SX.frz, SX.fixB, SX.rootIx, SX.Froz, SX.frzStep, SX.fork, Go.Value.cells, Go.undef, cfg4, hR0, hv0, devC]
    refine ⟨by (unfold SX.Ob; first | trivial | omega | ((try simp only [SX.inK]); (try simp [SX.den, SX.IsU8, SX.AllP, *]); (try omega))), ?_⟩
    intro a22 w22 hr22 _
    refine post_loop (PlLoop2 ⟨w16, w16.heap.size, []⟩ d s4 (.slice ad d.Z.length cp) (.slice adc d.Z.length cpc) (.slice adk K.length cpk) (jv : Int)) d.Z.length ⟨0, rfl, by omega, hr22.re (by simp [envTo, SX.look]) ⟨⟨hr22.all.1.1, by simp, by simp⟩, trivial⟩ rfl rfl⟩ ?_
    clear hr20 hr22 hA20 hb20
    rintro m aq w20' ⟨k, rfl, hk, hr20⟩
    have hb20 := hr20.keeps.toBelow
    have hA20 := hr20.all.1
    by_cases hlt : k < d.Z.length
    · obtain ⟨z, hz⟩ : ∃ z, nth zon0 d.Z k = z := ⟨_, rfl⟩
      have hzm : z ∈ d.Z := hz ▸ nth_mem hlt
      have hzn := hl z hzm
      obtain ⟨c, hce⟩ : ∃ c, cntE L k = c := ⟨_, rfl⟩
      have hrc : nth (0 : Int) (cnts L d.Z.length) k = c := (nth_cnts hlt).trans hce
      have hkc : k < (cnts L d.Z.length).length := by rw [cnts_len]; exact hlt
      have hcl := cnts_len L d.Z.length
      obtain ⟨b, o0, cap, u, fz, hP, hv, hrep⟩ := (hL16.below hb20).opn hlt
      obtain ⟨bc, oc, capc, uc, fzc, hPc, hvc, hrepc⟩ := (hO16.below hb20).opn hkc
      cases hv
      rw [cnts_len] at hvc
      cases hvc
      have hwq : (z.n : Int).tdiv 16 = whl z := by rw [whl, Int.ofNat_tdiv]; rfl
      have hwx : 0 ≤ whl z ∧ whl z ≤ 1000000000000000 := by unfold whl; omega
      have h21 := ((hr20.top 172 (.sl 1 b o0 0 d.Z.length cp 3) rfl (by simp [den])).top 10 (.sl 2 bc oc 0 d.Z.length cpc 1) rfl (by simp [den])).see [(s4, false, .cells [.v (.int .i64 d.cap), .v (.int .i64 d.op), .v (.int .i64 d.ac), .sl 1 b o0 0 d.Z.length cp 3] 24), (b, false, .arr o0 d.Z.length (fun j => znC (nth zon0 d.Z j)) 3 u fz), (bc, false, .arr oc (cnts L d.Z.length).length (fun j => intC (nth (0 : Int) (cnts L d.Z.length) j)) 1 uc fzc)] ⟨⟨by simpa [SO.rep, denL, den, devC] using hA20, by simp, by simp; omega⟩, ⟨hrep, by simp, by simp; omega⟩, HpAll.one hrepc⟩
      by_cases hst : z.st = 4
      rotate_left
      · refine seg cfg4_ok mixed PanicFree.body 1000 [true, false] [(182, false), (188, false), (199, false)] h21 (by first | trivial | exact HpRep.nil | assumption) (by kernel_rfl) fun s_ hs_ => ?_
        simp (maxSteps := 10000000) [SX.vc, SX.stop, SX.contS, SX.contB, SX.contW, SX.contR, SX.contD, SX.sxStep, SX.stepPure, SX.stepNew, SX.stepStore, SX.stepKeep, SX.guardIx, SX.evOp, SX.opd, SX.opds, SX.optOpd, SX.look, SX.putS, SX.gobs, SX.AllP, SX.leave, SX.lookC, SX.lookB, SX.lookT, SX.lookN, SX.findK, SX.evBuiltin, SX.ints, SX.foldI, SX.evBin, SX.evInt, SX.evStr, SX.evEq, SX.arith, SX.evLoad, SX.shapeUp, SX.evFieldAddr, SX.evField, SX.evIndexAddr, SX.evIndex, SX.evFill, SX.evBuild, SX.szs, SX.cellsV, SX.evNew, SX.evStore, SX.spliceL, SX.SV.cells, SX.evConv, SX.evSlice, SX.bnd, SX.evNil, SX.evUn, SX.evPick, SX.pickOpd, SX.popTo, SX.cnd, SX.env0, SX.TD.isAgg, SX.TD.isIface, SX.tails, SX.NotAgg, SX.evLookup, SX.evConvH, SX.evPtrEq, SX.isCells, SX.thaw, SX.frz, SX.fixB, SX.rootIx, SX.Froz, SX.frzStep, SX.fork, Go.Value.cells, Go.undef, cfg4, znC, hz, hst]
        refine ⟨by (unfold SX.Ob; first | trivial | omega | ((try simp only [SX.inK]); (try simp [SX.den, SX.IsU8, SX.AllP, *]); (try omega))), ?_⟩
        intro a22 w22 hr22 _
        exact post_rnd (d.Z.length - (k + 1)) (by omega) ⟨k + 1, rfl, by omega, hr22.re (by simp [envTo, SX.look, den]) ⟨⟨by simpa [SO.rep, denL, den, devC] using hr22.all.1.1, by simp, by simp⟩, trivial⟩ rfl rfl⟩
      obtain ⟨zst, zfe, zad, zn, zcp⟩ := z
      simp only at hst
      subst hst
      refine seg cfg4_ok mixed PanicFree.body 1000 [true] [(182, true)] h21 (by first | trivial | exact HpRep.nil | assumption) (by kernel_rfl) fun s_ hs_ => ?_
      simp (maxSteps := 10000000) [SX.vc, SX.stop, SX.contS, SX.contB, SX.contW, SX.contR, SX.contD, SX.sxStep, SX.stepPure, SX.stepNew, SX.stepStore, SX.stepKeep, SX.guardIx, SX.evOp, SX.opd, SX.opds, SX.optOpd, SX.look, SX.putS, SX.gobs, SX.AllP, SX.leave, SX.lookC, SX.lookB, SX.lookT, SX.lookN, SX.findK, SX.evBuiltin, SX.ints, SX.foldI, SX.evBin, SX.evInt, SX.evStr, SX.evEq, SX.arith, SX.evLoad, SX.shapeUp, SX.evFieldAddr, SX.evField, SX.evIndexAddr, SX.evIndex, SX.evFill, SX.evBuild, SX.szs, SX.cellsV, SX.evNew, SX.evStore, SX.spliceL, SX.SV.cells, SX.evConv, SX.evSlice, SX.bnd, SX.evNil, SX.evUn, SX.evPick, SX.pickOpd, SX.popTo, SX.cnd, SX.env0, SX.TD.isAgg, SX.TD.isIface, SX.tails, SX.NotAgg, SX.evLookup, SX.evConvH, SX.evPtrEq, SX.isCells, SX.thaw, SX.frz, SX.fixB, SX.rootIx, SX.Froz, SX.frzStep, SX.fork, Go.Value.cells, Go.undef, cfg4, znC, hz]
      refine ⟨by (unfold SX.Ob; first | trivial | omega | ((try simp only [SX.inK]); (try simp [SX.den, SX.IsU8, SX.AllP, *]); (try omega))), ?_⟩
      intro a22 w22 hr22 ht22
      refine post_callD 11 [.v (.slice adk K.length cpk), .v (.int .i64 k)] hr22 rfl (by first | exact wanted_none rfl | exact wanted_zero (hr22.env.same rfl rfl rfl rfl) rfl (by simp) | exact wanted_zero (hr22.env.same rfl rfl rfl rfl) rfl (by simp [*])) rfl (callable 11 Try.func11) (rin_ok w22 _ K k (hK16.below hr22.keeps.toBelow) (by omega)) ?_
      rintro e23 w23 ⟨rfl, hb23⟩
      have ht23 := HpRep_below ht22 hb23
      refine ⟨_, rfl, ht23, ?_⟩
      have hr23 := hr22.ret hb23 185 (.v (.bool (decide ((k : Int) ∈ K)))) rfl _ (hr22.all.below hb23) (by simp) rfl
      by_cases hin : (k : Int) ∈ K
      · refine seg cfg4_ok mixed PanicFree.body 1000 [false] [(182, true), (188, false), (199, false)] hr23 (by first | trivial | exact HpRep.nil | assumption) (by kernel_rfl) fun s_ hs_ => ?_
        simp (maxSteps := 10000000) [SX.vc, SX.stop, SX.contS, SX.contB, SX.contW, SX.contR, SX.contD, SX.sxStep, SX.stepPure, SX.stepNew, SX.stepStore, SX.stepKeep, SX.guardIx, SX.evOp, SX.opd, SX.opds, SX.optOpd, SX.look, SX.putS, SX.gobs, SX.AllP, SX.leave, SX.lookC, SX.lookB, SX.lookT, SX.lookN, SX.findK, SX.evBuiltin, SX.ints, SX.foldI, SX.evBin, SX.evInt, SX.evStr, SX.evEq, SX.arith, SX.evLoad, SX.shapeUp, SX.evFieldAddr, SX.evField, SX.evIndexAddr, SX.evIndex, SX.evFill, SX.evBuild, SX.szs, SX.cellsV, SX.evNew, SX.evStore, SX.spliceL, SX.SV.cells, SX.evConv, SX.evSlice, SX.bnd, SX.evNil, SX.evUn, SX.evPick, SX.pickOpd, SX.popTo, SX.cnd, SX.env0, SX.TD.isAgg, SX.TD.isIface, SX.tails, SX.NotAgg, SX.evLookup, SX.evConvH, SX.evPtrEq, SX.isCells, SX.thaw, SX.frz, SX.fixB, SX.rootIx, SX.Froz, SX.frzStep, SX.fork, Go.Value.cells, Go.undef, cfg4, hin]
        refine ⟨by (unfold SX.Ob; first | trivial | omega | ((try simp only [SX.inK]); (try simp [SX.den, SX.IsU8, SX.AllP, *]); (try omega))), ?_⟩
        intro a24 w24 hr24 _
        exact post_rnd (d.Z.length - (k + 1)) (by omega) ⟨k + 1, rfl, by omega, hr24.re (by simp [envTo, SX.look, den]) ⟨⟨by simpa [SO.rep, denL, den, devC] using hr24.all.1.1, by simp, by simp⟩, trivial⟩ rfl rfl⟩
      by_cases hcw : c < whl ⟨4, zfe, zad, zn, zcp⟩
      rotate_left
      · refine seg cfg4_ok mixed PanicFree.body 1000 [false] [(182, true), (188, true), (199, false)] hr23 (by first | trivial | exact HpRep.nil | assumption) (by kernel_rfl) fun s_ hs_ => ?_
        simp (maxSteps := 10000000) [SX.vc, SX.stop, SX.contS, SX.contB, SX.contW, SX.contR, SX.contD, SX.sxStep, SX.stepPure, SX.stepNew, SX.stepStore, SX.stepKeep, SX.guardIx, SX.evOp, SX.opd, SX.opds, SX.optOpd, SX.look, SX.putS, SX.gobs, SX.AllP, SX.leave, SX.lookC, SX.lookB, SX.lookT, SX.lookN, SX.findK, SX.evBuiltin, SX.ints, SX.foldI, SX.evBin, SX.evInt, SX.evStr, SX.evEq, SX.arith, SX.evLoad, SX.shapeUp, SX.evFieldAddr, SX.evField, SX.evIndexAddr, SX.evIndex, SX.evFill, SX.evBuild, SX.szs, SX.cellsV, SX.evNew, SX.evStore, SX.spliceL, SX.SV.cells, SX.evConv, SX.evSlice, SX.bnd, SX.evNil, SX.evUn, SX.evPick, SX.pickOpd, SX.popTo, SX.cnd, SX.env0, SX.TD.isAgg, SX.TD.isIface, SX.tails, SX.NotAgg, SX.evLookup, SX.evConvH, SX.evPtrEq, SX.isCells, SX.thaw, SX.frz, SX.fixB, SX.rootIx, SX.Froz, SX.frzStep, SX.fork, Go.Value.cells, Go.undef, cfg4, hin, intC, hrc, hcw, hwq, hkc, hcl, hlt]
        refine ⟨by (unfold SX.Ob; first | trivial | omega | ((try simp only [SX.inK]); (try simp [SX.den, SX.IsU8, SX.AllP, *]); (try omega))), ?_⟩
        intro a24 w24 hr24 _
        exact post_rnd (d.Z.length - (k + 1)) (by omega) ⟨k + 1, rfl, by omega, hr24.re (by simp [envTo, SX.look, den]) ⟨⟨by simpa [SO.rep, denL, den, devC] using hr24.all.1.1, by simp, by simp⟩, trivial⟩ rfl rfl⟩
      have hcc : ¬ c < cv := by
        have h := hbest k (hmem k hlt (by simp [vicP, hz, hce, hcw, hin]))
        omega
      refine seg cfg4_ok mixed PanicFree.body 1000 [false] [(182, true), (188, true), (199, true)] hr23 (by first | trivial | exact HpRep.nil | assumption) (by kernel_rfl) fun s_ hs_ => ?_
      simp (maxSteps := 10000000) [SX.vc, SX.stop, SX.contS, SX.contB, SX.contW, SX.contR, SX.contD, SX.sxStep, SX.stepPure, SX.stepNew, SX.stepStore, SX.stepKeep, SX.guardIx, SX.evOp, SX.opd, SX.opds, SX.optOpd, SX.look, SX.putS, SX.gobs, SX.AllP, SX.leave, SX.lookC, SX.lookB, SX.lookT, SX.lookN, SX.findK, SX.evBuiltin, SX.ints, SX.foldI, SX.evBin, SX.evInt, SX.evStr, SX.evEq, SX.arith, SX.evLoad, SX.shapeUp, SX.evFieldAddr, SX.evField, SX.evIndexAddr, SX.evIndex, SX.evFill, SX.evBuild, SX.szs, SX.cellsV, SX.evNew, SX.evStore, SX.spliceL, SX.SV.cells, SX.evConv, SX.evSlice, SX.bnd, SX.evNil, SX.evUn, SX.evPick, SX.pickOpd, SX.popTo, SX.cnd, SX.env0, SX.TD.isAgg, SX.TD.isIface, SX.tails, SX.NotAgg, SX.evLookup, SX.evConvH, SX.evPtrEq, SX.isCells, SX.thaw, SX.frz, SX.fixB, SX.rootIx, SX.Froz, SX.frzStep, SX.fork, Go.Value.cells, Go.undef, cfg4, hin, intC, hrc, hcw, hwq, hkc, hcl, hlt, hrcv, hjvc, hjv, hcc]
      refine ⟨by (unfold SX.Ob; first | trivial | omega | ((try simp only [SX.inK]); (try simp [SX.den, SX.IsU8, SX.AllP, *]); (try omega))), ?_⟩
      intro a24 w24 hr24 _
      exact post_rnd (d.Z.length - (k + 1)) (by omega) ⟨k + 1, rfl, by omega, hr24.re (by simp [envTo, SX.look, den]) ⟨⟨by simpa [SO.rep, denL, den, devC] using hr24.all.1.1, by simp, by simp⟩, trivial⟩ rfl rfl⟩
    obtain rfl : k = d.Z.length := by omega
    refine seg cfg4_ok mixed PanicFree.body 1000 [false] [] hr20 (by first | trivial | exact HpRep.nil | assumption) (by kernel_rfl) fun s_ hs_ => ?_
    simp (maxSteps := 10000000) [SX.vc, SX.stop, SX.contS, SX.contB, SX.contW, SX.contR, SX.contD, SX.sxStep, SX.stepPure, SX.stepNew, SX.stepStore, SX.stepKeep, SX.guardIx, SX.evOp, SX.opd, SX.opds, SX.optOpd, SX.look, SX.putS, SX.gobs, SX.AllP, SX.leave, SX.lookC, SX.lookB, SX.lookT, SX.lookN, SX.findK, SX.evBuiltin, SX.ints, SX.foldI, SX.evBin, SX.evInt, SX.evStr, SX.evEq, SX.arith, SX.evLoad, SX.shapeUp, SX.evFieldAddr, SX.evField, SX.evIndexAddr, SX.evIndex, SX.evFill, SX.evBuild, SX.szs, SX.cellsV, SX.evNew, SX.evStore, SX.spliceL, SX.SV.cells, SX.evConv, SX.evSlice, SX.bnd, SX.evNil, SX.evUn, SX.evPick, SX.pickOpd, SX.popTo, SX.cnd, SX.env0, SX.TD.isAgg, SX.TD.isIface, SX.tails, SX.NotAgg, SX.evLookup, SX.evConvH, SX.evPtrEq, SX.isCells, SX.thaw, SX.frz, SX.fixB, SX.rootIx, SX.Froz, SX.frzStep, SX.fork, Go.Value.cells, Go.undef, cfg4]
    refine ⟨by (unfold SX.Ob; first | trivial | omega | ((try simp only [SX.inK]); (try simp [SX.den, SX.IsU8, SX.AllP, *]); (try omega))), ?_⟩
    intro a22 w22 hr22 _
    have hr23 := h16i.unbase hr22
    exact post_retn (end1 hr23 rfl rfl ⟨rfl, hr23.keeps.toBelow⟩).1
end Go.Proofs
