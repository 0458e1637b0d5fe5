/- Live: what is told of a map and a device. -/
import Derived.Test.YtnmjdelnllchdaaDF
namespace Go.Proofs
set_option linter.unusedVariables false
set_option linter.unusedSimpArgs false
set_option linter.unusedSectionVars false
open Go Go.SX Go.RowKit

theorem Chk.may {L : List Ext} (h : Chk L) : ∀ e ∈ L, May e := ChkFrom.may h
def CountR (w : World) (L : List Ext) (z : Nat) (e : Ending) (w' : World) : Prop := ∃ v, e = .returned (den (.tu [.v v, .v (.int .i64 0)])) ∧ RdI (fun x => w.heap.size ≤ x) w' v (cnts L z) ∧ Below w.heap.size w w'

set_option maxRecDepth 100000 in
set_option maxHeartbeats 16000000 in
/-- Count, of a map that may be. -/
theorem Count_ok {P : Nat → Prop} (w : World) (v : Value) (L : List Ext) (z : Nat) (hL : RdE P w v L) (hn : L.length ≤ 1000) (hC : Chk L) (hz : z ≤ 64) : Calls Try.prog 16 (denL [.v v, .v (.int .i64 z)]).toArray w (CountR w L z) := by
  refine enter (F := frame0 w) Try.func16 rfl [.v v, .v (.int .i64 z)] [] (by simp [Try.f16]) trivial (keeps0 w) fun a hr => ?_
  have hz0 : ¬ (z : Int) < 0 := by omega
  have hz1 : ¬ (64 : Int) < z := by omega
  have hc : chkE L = 0 := if_pos hC
  refine seg cfg16_ok mixed PanicFree.body 1000 [] [(8, false), (12, false)] hr (by first | trivial | exact HpRep.nil | assumption) (by kernel_rfl) fun s_ hs_ => ?_
  simp (maxSteps := 10000000) [SX.vc, SX.stop, SX.contS, SX.contB, SX.contW, SX.contR, SX.contD, SX.sxStep, SX.stepPure, SX.stepNew, SX.stepStore, SX.stepKeep, SX.guardIx, SX.evOp, SX.opd, SX.opds, SX.optOpd, SX.look, SX.putS, SX.gobs, SX.AllP, SX.leave, SX.lookC, SX.lookB, SX.lookT, SX.lookN, SX.findK, SX.evBuiltin, SX.ints, SX.foldI, SX.evBin, SX.evInt, SX.evStr, SX.evEq, SX.arith, SX.evLoad, SX.shapeUp, SX.evFieldAddr, SX.evField, SX.evIndexAddr, SX.evIndex, SX.evFill, SX.evBuild, SX.szs, SX.cellsV, SX.evNew, SX.evStore, SX.spliceL, SX.SV.cells, SX.evConv, SX.evSlice, SX.bnd, SX.evNil, SX.evUn, SX.evPick, SX.pickOpd, SX.popTo, SX.cnd, SX.env0, SX.TD.isAgg, SX.TD.isIface, SX.tails, SX.NotAgg, SX.evLookup, SX.evConvH, SX.evPtrEq, SX.isCells, SX.thaw, SX.frz, SX.fixB, SX.rootIx, SX.Froz, SX.frzStep, SX.fork, Go.Value.cells, Go.undef, cfg16, Try.f16, hz0, hz1]
  refine ⟨by (unfold SX.Ob; first | trivial | omega | ((try simp only [SX.inK]); (try simp [SX.den, SX.IsU8, SX.AllP, *]); (try omega))), ?_⟩
  intro a1 w1 hr1 _
  refine post_call 27 [.v v] hr1 (by first | exact wanted_none rfl | exact wanted_zero (hr1.env.same rfl rfl rfl rfl) rfl (by simp) | exact wanted_zero (hr1.env.same rfl rfl rfl rfl) rfl (by simp [*])) rfl (callable 27 Try.func27) (check_ok w1 v L (hL.below hr1.keeps.toBelow) (by omega)) ?_
  rintro e2 w2 ⟨rfl, hb2⟩
  refine ⟨_, rfl, ?_⟩
  have h2 := hr1.ret hb2 14 (.v (.int .i64 (chkE L))) rfl _ (hr1.all.below hb2) (by simp) rfl
  refine seg cfg16_ok mixed PanicFree.body 1000 [false] [(8, false), (12, false)] h2 (by first | trivial | exact HpRep.nil | assumption) (by kernel_rfl) fun s_ hs_ => ?_
  simp (maxSteps := 10000000) [SX.vc, SX.stop, SX.contS, SX.contB, SX.contW, SX.contR, SX.contD, SX.sxStep, SX.stepPure, SX.stepNew, SX.stepStore, SX.stepKeep, SX.guardIx, SX.evOp, SX.opd, SX.opds, SX.optOpd, SX.look, SX.putS, SX.gobs, SX.AllP, SX.leave, SX.lookC, SX.lookB, SX.lookT, SX.lookN, SX.findK, SX.evBuiltin, SX.ints, SX.foldI, SX.evBin, SX.evInt, SX.evStr, SX.evEq, SX.arith, SX.evLoad, SX.shapeUp, SX.evFieldAddr, SX.evField, SX.evIndexAddr, SX.evIndex, SX.evFill, SX.evBuild, SX.szs, SX.cellsV, SX.evNew, SX.evStore, SX.spliceL, SX.SV.cells, SX.evConv, SX.evSlice, SX.bnd, SX.evNil, SX.evUn, SX.evPick, SX.pickOpd, SX.popTo, SX.cnd, SX.env0, SX.TD.isAgg, SX.TD.isIface, SX.tails, SX.NotAgg, SX.evLookup, SX.evConvH, SX.evPtrEq, SX.isCells, SX.thaw, SX.frz, SX.fixB, SX.rootIx, SX.Froz, SX.frzStep, SX.fork, Go.Value.cells, Go.undef, cfg16, hc, hz0, hz1]
  refine ⟨by (unfold SX.Ob; first | trivial | omega | ((try simp only [SX.inK]); (try simp [SX.den, SX.IsU8, SX.AllP, *]); (try omega))), ?_⟩
  intro a3 w3 hr3 _
  have z3 : w.heap.size ≤ w3.heap.size := hr3.keeps.size
  refine post_call 28 [.v v, .v (.int .i64 z)] hr3 (by first | exact wanted_none rfl | exact wanted_zero (hr3.env.same rfl rfl rfl rfl) rfl (by simp) | exact wanted_zero (hr3.env.same rfl rfl rfl rfl) rfl (by simp [*])) rfl (callable 28 Try.func28) (counts_ok w3 v L z (hL.below hr3.keeps.toBelow) hn hC.may hz) ?_
  rintro e4 w4 ⟨v4, rfl, hO4, hb4⟩
  refine ⟨_, rfl, ?_⟩
  have h4 := hr3.ret hb4 19 (.v v4) rfl _ (hr3.all.below hb4) (by simp) rfl
  refine seg cfg16_ok mixed PanicFree.body 1000 [] [] h4.rebase (by first | trivial | exact HpRep.nil | assumption) (by kernel_rfl) fun s_ hs_ => ?_
  simp (maxSteps := 10000000) [SX.vc, SX.stop, SX.contS, SX.contB, SX.contW, SX.contR, SX.contD, SX.sxStep, SX.stepPure, SX.stepNew, SX.stepStore, SX.stepKeep, SX.guardIx, SX.evOp, SX.opd, SX.opds, SX.optOpd, SX.look, SX.putS, SX.gobs, SX.AllP, SX.leave, SX.lookC, SX.lookB, SX.lookT, SX.lookN, SX.findK, SX.evBuiltin, SX.ints, SX.foldI, SX.evBin, SX.evInt, SX.evStr, SX.evEq, SX.arith, SX.evLoad, SX.shapeUp, SX.evFieldAddr, SX.evField, SX.evIndexAddr, SX.evIndex, SX.evFill, SX.evBuild, SX.szs, SX.cellsV, SX.evNew, SX.evStore, SX.spliceL, SX.SV.cells, SX.evConv, SX.evSlice, SX.bnd, SX.evNil, SX.evUn, SX.evPick, SX.pickOpd, SX.popTo, SX.cnd, SX.env0, SX.TD.isAgg, SX.TD.isIface, SX.tails, SX.NotAgg, SX.evLookup, SX.evConvH, SX.evPtrEq, SX.isCells, SX.thaw, SX.frz, SX.fixB, SX.rootIx, SX.Froz, SX.frzStep, SX.fork, Go.Value.cells, Go.undef, cfg16]
  refine ⟨by (unfold SX.Ob; first | trivial | omega | ((try simp only [SX.inK]); (try simp [SX.den, SX.IsU8, SX.AllP, *]); (try omega))), ?_⟩
  intro a5 w5 hr5' _
  have hr5 := h4.unbase hr5'
  exact post_retn (end2 hr5 rfl rfl rfl ⟨v4, rfl, (hO4.below hr5'.keeps.toBelow).mono fun x _ h => by omega, hr5.keeps.toBelow⟩).1

/-- What is whole, less something, of the first zones. -/
def wst (Z : List Zon) (f : Nat → Int) : Nat → Int
  | 0 => 0
  | k + 1 => wst Z f k + (whl (nth zon0 Z k) - f k)
theorem wst_bound {Z : List Zon} {f : Nat → Int} (hZ : ∀ z ∈ Z, z.n ≤ 1000000) (hf : ∀ j, 0 ≤ f j ∧ f j ≤ 1125899906842624) : ∀ k, k ≤ Z.length → -(1125899906842624 * (k : Int)) ≤ wst Z f k ∧ wst Z f k ≤ 1000000 * (k : Int)
  | 0, _ => by simp [wst]
  | k + 1, h => by
    obtain ⟨h1, h2⟩ := wst_bound hZ hf k (by omega)
    have h3 := hZ _ (nth_mem (d := zon0) (show k < Z.length by omega))
    obtain ⟨h4, h5⟩ := hf k
    have h6 : 0 ≤ whl (nth zon0 Z k) ∧ whl (nth zon0 Z k) ≤ 1000000 := by unfold whl; omega
    simp only [wst]
    omega
def WasteLoop (F : Fr) (d : Dev) (f : Nat → Int) (vc vz : Value) (s2 : Nat) (m : Nat) (a : Act) (w' : World) : Prop :=
  ∃ k : Nat, m = d.Z.length - k ∧ k ≤ d.Z.length ∧ RepX F ⟨[(23, 0, .v (.int .i64 k)), (22, 0, .v (.int .i64 d.Z.length)), (21, 0, .v vc), (6, 0, .v (.int .i64 (wst d.Z f k))), (2, 0, .ptr 0 s2 0)], [(s2, false, .cells (devC d vz) 24)], 0, 0, 41, [], [], []⟩ a w'
def maxZ (x : Int) : Int := if x < 0 then 0 else x

set_option maxRecDepth 100000 in
set_option maxHeartbeats 16000000 in
/-- Waste. -/
theorem Waste_ok {P P' : Nat → Prop} (w : World) (v vm : Value) (d : Dev) (L : List Ext) (hL : RdZ (fun x => x < w.heap.size) w v d.Z) (hl : LenOK d.Z) (hD : DevOK d) (hM : RdE P' w vm L) (hn : L.length ≤ 1000) (hC : Chk L) : Calls Try.prog 17 (denL [.ag (devC d v), .v vm]).toArray w (Ret w (.tu [.v (.int .i64 (maxZ (wst d.Z (cntE L) d.Z.length))), .v (.int .i64 0)])) := by
  obtain ⟨ad, cp, rfl⟩ := hL.slice
  have hz64 := hD.1.2.1
  have hz1 := hD.1.1
  refine enter (F := frame0 w) Try.func17 rfl [.ag (devC d (.slice ad d.Z.length cp)), .v vm] [] (by simp [Try.f17]) trivial (keeps0 w) fun a hr => ?_
  refine seg cfg17_ok mixed PanicFree.body 1000 [] [] hr (by first | trivial | exact HpRep.nil | assumption) (by kernel_rfl) fun s2 hs2 => ?_
  simp (maxSteps := 10000000) [SX.vc, SX.stop, SX.contS, SX.contB, SX.contW, SX.contR, SX.contD, SX.sxStep, SX.stepPure, SX.stepNew, SX.stepStore, SX.stepKeep, SX.guardIx, SX.evOp, SX.opd, SX.opds, SX.optOpd, SX.look, SX.putS, SX.gobs, SX.AllP, SX.leave, SX.lookC, SX.lookB, SX.lookT, SX.lookN, SX.findK, SX.evBuiltin, SX.ints, SX.foldI, SX.evBin, SX.evInt, SX.evStr, SX.evEq, SX.arith, SX.evLoad, SX.shapeUp, SX.evFieldAddr, SX.evField, SX.evIndexAddr, SX.evIndex, SX.evFill, SX.evBuild, SX.szs, SX.cellsV, SX.evNew, SX.evStore, SX.spliceL, SX.SV.cells, SX.evConv, SX.evSlice, SX.bnd, SX.evNil, SX.evUn, SX.evPick, SX.pickOpd, SX.popTo, SX.cnd, SX.env0, SX.TD.isAgg, SX.TD.isIface, SX.tails, SX.NotAgg, SX.evLookup, SX.evConvH, SX.evPtrEq, SX.isCells, SX.thaw, SX.frz, SX.fixB, SX.rootIx, SX.Froz, SX.frzStep, SX.fork, Go.Value.cells, Go.undef, cfg17, Try.f17, devC]
  refine ⟨by (unfold SX.Ob; first | trivial | omega | ((try simp only [SX.inK]); (try simp [SX.den, SX.IsU8, SX.AllP, *]); (try omega))), ?_⟩
  intro a1 w1 hr1 _
  refine post_call 29 [.ag [.v (.int .i64 d.cap), .v (.int .i64 d.op), .v (.int .i64 d.ac), .v (.slice ad d.Z.length cp)]] hr1 (by first | exact wanted_none rfl | exact wanted_zero (hr1.env.same rfl rfl rfl rfl) rfl (by simp) | exact wanted_zero (hr1.env.same rfl rfl rfl rfl) rfl (by simp [*])) rfl (callable 29 Try.func29) (check29_ok w1 _ d (hL.below hr1.keeps.toBelow) (by omega) hl) ?_
  rintro e2 w2 ⟨rfl, hb2⟩
  refine ⟨_, rfl, ?_⟩
  have h2 := hr1.ret hb2 10 (.v (.int .i64 (devE d))) rfl _ (hr1.all.below hb2) (by simp) rfl
  have hd : devE d = 0 := if_pos hD
  have hc : chkE L = 0 := if_pos hC
  refine seg cfg17_ok mixed PanicFree.body 1000 [] [(12, false)] h2 (by first | trivial | exact HpRep.nil | assumption) (by kernel_rfl) fun s_ hs_ => ?_
  simp (maxSteps := 10000000) [SX.vc, SX.stop, SX.contS, SX.contB, SX.contW, SX.contR, SX.contD, SX.sxStep, SX.stepPure, SX.stepNew, SX.stepStore, SX.stepKeep, SX.guardIx, SX.evOp, SX.opd, SX.opds, SX.optOpd, SX.look, SX.putS, SX.gobs, SX.AllP, SX.leave, SX.lookC, SX.lookB, SX.lookT, SX.lookN, SX.findK, SX.evBuiltin, SX.ints, SX.foldI, SX.evBin, SX.evInt, SX.evStr, SX.evEq, SX.arith, SX.evLoad, SX.shapeUp, SX.evFieldAddr, SX.evField, SX.evIndexAddr, SX.evIndex, SX.evFill, SX.evBuild, SX.szs, SX.cellsV, SX.evNew, SX.evStore, SX.spliceL, SX.SV.cells, SX.evConv, SX.evSlice, SX.bnd, SX.evNil, SX.evUn, SX.evPick, SX.pickOpd, SX.popTo, SX.cnd, SX.env0, SX.TD.isAgg, SX.TD.isIface, SX.tails, SX.NotAgg, SX.evLookup, SX.evConvH, SX.evPtrEq, SX.isCells, SX.thaw, SX.frz, SX.fixB, SX.rootIx, SX.Froz, SX.frzStep, SX.fork, Go.Value.cells, Go.undef, cfg17, hd]
  refine ⟨by (unfold SX.Ob; first | trivial | omega | ((try simp only [SX.inK]); (try simp [SX.den, SX.IsU8, SX.AllP, *]); (try omega))), ?_⟩
  intro a3 w3 hr3 _
  refine post_call 27 [.v vm] hr3 (by first | exact wanted_none rfl | exact wanted_zero (hr3.env.same rfl rfl rfl rfl) rfl (by simp) | exact wanted_zero (hr3.env.same rfl rfl rfl rfl) rfl (by simp [*])) rfl (callable 27 Try.func27) (check_ok w3 vm L (hM.below hr3.keeps.toBelow) (by omega)) ?_
  rintro e4 w4 ⟨rfl, hb4⟩
  refine ⟨_, rfl, ?_⟩
  have h4 := hr3.ret hb4 14 (.v (.int .i64 (chkE L))) rfl _ (hr3.all.below hb4) (by simp) rfl
  refine seg cfg17_ok mixed PanicFree.body 1000 [false] [(12, false)] h4 (by first | trivial | exact HpRep.nil | assumption) (by kernel_rfl) fun s_ hs_ => ?_
  simp (maxSteps := 10000000) [SX.vc, SX.stop, SX.contS, SX.contB, SX.contW, SX.contR, SX.contD, SX.sxStep, SX.stepPure, SX.stepNew, SX.stepStore, SX.stepKeep, SX.guardIx, SX.evOp, SX.opd, SX.opds, SX.optOpd, SX.look, SX.putS, SX.gobs, SX.AllP, SX.leave, SX.lookC, SX.lookB, SX.lookT, SX.lookN, SX.findK, SX.evBuiltin, SX.ints, SX.foldI, SX.evBin, SX.evInt, SX.evStr, SX.evEq, SX.arith, SX.evLoad, SX.shapeUp, SX.evFieldAddr, SX.evField, SX.evIndexAddr, SX.evIndex, SX.evFill, SX.evBuild, SX.szs, SX.cellsV, SX.evNew, SX.evStore, SX.spliceL, SX.SV.cells, SX.evConv, SX.evSlice, SX.bnd, SX.evNil, SX.evUn, SX.evPick, SX.pickOpd, SX.popTo, SX.cnd, SX.env0, SX.TD.isAgg, SX.TD.isIface, SX.tails, SX.NotAgg, SX.evLookup, SX.evConvH, SX.evPtrEq, SX.isCells, SX.thaw, SX.frz, SX.fixB, SX.rootIx, SX.Froz, SX.frzStep, SX.fork, Go.Value.cells, Go.undef, cfg17, hc, devC]
  refine ⟨by (unfold SX.Ob; first | trivial | omega | ((try simp only [SX.inK]); (try simp [SX.den, SX.IsU8, SX.AllP, *]); (try omega))), ?_⟩
  intro a5 w5 hr5 _
  have k2 := SO.rep_lt hr5.all.1.1
  have z5 : w.heap.size ≤ w5.heap.size := hr5.keeps.size
  have hs2 : w.heap.size ≤ s2 := by
    rcases hr5.all.1.2.1 rfl with h | h
    · exact h
    · cases h
  refine post_call 28 [.v vm, .v (.int .i64 d.Z.length)] hr5 (by first | exact wanted_none rfl | exact wanted_zero (hr5.env.same rfl rfl rfl rfl) rfl (by simp) | exact wanted_zero (hr5.env.same rfl rfl rfl rfl) rfl (by simp [*])) rfl (callable 28 Try.func28) (counts_ok w5 vm L d.Z.length (hM.below hr5.keeps.toBelow) hn hC.may hz64) ?_
  rintro e6 w6 ⟨vc, rfl, hO6, hb6⟩
  refine ⟨_, rfl, ?_⟩
  have h6 := hr5.ret hb6 21 (.v vc) rfl _ (hr5.all.below hb6) (by simp) rfl
  obtain ⟨adc, cpc, hvc⟩ := hO6.slice
  rw [cnts_len] at hvc
  subst hvc
  refine seg cfg17_ok mixed PanicFree.body 1000 [] [] h6.rebase (by first | trivial | exact HpRep.nil | assumption) (by kernel_rfl) fun s_ hs_ => ?_
  simp (maxSteps := 10000000) [SX.vc, SX.stop, SX.contS, SX.contB, SX.contW, SX.contR, SX.contD, SX.sxStep, SX.stepPure, SX.stepNew, SX.stepStore, SX.stepKeep, SX.guardIx, SX.evOp, SX.opd, SX.opds, SX.optOpd, SX.look, SX.putS, SX.gobs, SX.AllP, SX.leave, SX.lookC, SX.lookB, SX.lookT, SX.lookN, SX.findK, SX.evBuiltin, SX.ints, SX.foldI, SX.evBin, SX.evInt, SX.evStr, SX.evEq, SX.arith, SX.evLoad, SX.shapeUp, SX.evFieldAddr, SX.evField, SX.evIndexAddr, SX.evIndex, SX.evFill, SX.evBuild, SX.szs, SX.cellsV, SX.evNew, SX.evStore, SX.spliceL, SX.SV.cells, SX.evConv, SX.evSlice, SX.bnd, SX.evNil, SX.evUn, SX.evPick, SX.pickOpd, SX.popTo, SX.cnd, SX.env0, SX.TD.isAgg, SX.TD.isIface, SX.tails, SX.NotAgg, SX.evLookup, SX.evConvH, SX.evPtrEq, SX.isCells, SX.thaw, SX.frz, SX.fixB, SX.rootIx, SX.Froz, SX.frzStep, SX.fork, Go.Value.cells, Go.undef, cfg17]
  refine ⟨by (unfold SX.Ob; first | trivial | omega | ((try simp only [SX.inK]); (try simp [SX.den, SX.IsU8, SX.AllP, *]); (try omega))), ?_⟩
  intro a7 w7 hr7' _
  have hr7a := h6.unbase hr7'
  have hO7 := hO6.keep hr7'.keeps (by simp [frameAt, mutB]; omega)
  have hL7 := hL.below hr7a.keeps.toBelow
  have hr7b := hr7a.see _ (HpAll.imm hr7a.all)
  simp only [List.map_cons, List.map_nil] at hr7b
  have hbd := cntE_bound hC.may
  have hwb := wst_bound (Z := d.Z) (f := cntE L) (fun z hz => by
    have h := hD.2.2.2 z hz
    have hcap := hD.1.2.2.2.1
    unfold ZonOK at h
    omega) (fun j => by
    have := hbd j
    omega)
  refine post_loop (WasteLoop _ d (cntE L) (.slice adc d.Z.length cpc) (.slice ad d.Z.length cp) s2) d.Z.length ⟨0, rfl, by omega, hr7b.rebase.re (by simp [envTo, SX.look, wst]) ⟨⟨hr7b.all.1.1, by simp, by simp⟩, trivial⟩ rfl rfl⟩ ?_
  rintro m a8 w8 ⟨k, rfl, hk, hr8⟩
  have hb8 := hr8.keeps.toBelow
  by_cases hlt : k < d.Z.length
  · obtain ⟨b, o0, cap, u, fz, hP, hv, hrep⟩ := (hL7.below hb8).opn hlt
    obtain ⟨bc, oc, capc, uc, fzc, hPc, hvc, hrepc⟩ := (hO7.below hb8).opn (show k < (cnts L d.Z.length).length by rw [cnts_len]; exact hlt)
    cases hv
    rw [cnts_len] at hvc
    cases hvc
    obtain ⟨x, hx⟩ : ∃ x, nth zon0 d.Z k = x := ⟨_, rfl⟩
    have hxm : x ∈ d.Z := hx ▸ nth_mem hlt
    have hrc : nth (0 : Int) (cnts L d.Z.length) k = cntE L k := nth_cnts hlt
    obtain ⟨c, hce⟩ : ∃ c, cntE L k = c := ⟨_, rfl⟩
    rw [hce] at hrc
    have hw0 := hwb k hk
    have hw1 := hwb (k + 1) hlt
    have hstep : wst d.Z (cntE L) (k + 1) = wst d.Z (cntE L) k + (whl x - c) := by simp only [wst, hx, hce]
    rw [hstep] at hw1
    obtain ⟨s, hs⟩ : ∃ s, wst d.Z (cntE L) k = s := ⟨_, rfl⟩
    rw [hs] at hw0 hw1 hstep hr8
    have hcb := hbd k
    rw [hce] at hcb
    have hwx : 0 ≤ whl x ∧ whl x ≤ 1000000000000000 := by
      have := hl x hxm
      unfold whl
      omega
    have hA8 := hr8.all.1
    have h9 := (hr8.top 21 (.sl 2 bc oc 0 d.Z.length cpc 1) rfl (by simp [den])).see [(s2, false, .cells [.v (.int .i64 d.cap), .v (.int .i64 d.op), .v (.int .i64 d.ac), .sl 1 b o0 0 d.Z.length cp 3] 24), (b, false, .arr o0 d.Z.length (fun j => znC (nth zon0 d.Z j)) 3 u fz), (bc, false, .arr oc (cnts L d.Z.length).length (fun j => intC (nth (0 : Int) (cnts L d.Z.length) j)) 1 uc fzc)] ⟨⟨by simpa [SO.rep, denL, den, devC] using hA8.1, by simp, by simp; omega⟩, ⟨hrep, by simp, by simp; omega⟩, HpAll.one hrepc⟩
    have hkc : k < (cnts L d.Z.length).length := by rw [cnts_len]; exact hlt
    have hcl := cnts_len L d.Z.length
    refine seg cfg17_ok mixed PanicFree.body 1000 [true] [] h9 (by first | trivial | exact HpRep.nil | assumption) (by kernel_rfl) fun s_ hs_ => ?_
    simp (maxSteps := 10000000) [SX.vc, SX.stop, SX.contS, SX.contB, SX.contW, SX.contR, SX.contD, SX.sxStep, SX.stepPure, SX.stepNew, SX.stepStore, SX.stepKeep, SX.guardIx, SX.evOp, SX.opd, SX.opds, SX.optOpd, SX.look, SX.putS, SX.gobs, SX.AllP, SX.leave, SX.lookC, SX.lookB, SX.lookT, SX.lookN, SX.findK, SX.evBuiltin, SX.ints, SX.foldI, SX.evBin, SX.evInt, SX.evStr, SX.evEq, SX.arith, SX.evLoad, SX.shapeUp, SX.evFieldAddr, SX.evField, SX.evIndexAddr, SX.evIndex, SX.evFill, SX.evBuild, SX.szs, SX.cellsV, SX.evNew, SX.evStore, SX.spliceL, SX.SV.cells, SX.evConv, SX.evSlice, SX.bnd, SX.evNil, SX.evUn, SX.evPick, SX.pickOpd, SX.popTo, SX.cnd, SX.env0, SX.TD.isAgg, SX.TD.isIface, SX.tails, SX.NotAgg, SX.evLookup, SX.evConvH, SX.evPtrEq, SX.isCells, SX.thaw, SX.frz, SX.fixB, SX.rootIx, SX.Froz, SX.frzStep, SX.fork, Go.Value.cells, Go.undef, cfg17, znC, hx, intC, hrc, hcl]
    refine ⟨by (unfold SX.Ob; first | trivial | omega | ((try simp only [SX.inK]); (try simp [SX.den, SX.IsU8, SX.AllP, *]); (try omega))), ?_⟩
    intro a10 w10 hr10 _
    refine post_call 30 [.ag (znC x)] hr10 (by first | exact wanted_none rfl | exact wanted_zero (hr10.env.same rfl rfl rfl rfl) rfl (by simp) | exact wanted_zero (hr10.env.same rfl rfl rfl rfl) rfl (by simp [*])) rfl (callable 30 Try.func30) (whole_ok w10 x (hl x hxm)) ?_
    rintro e11 w11 ⟨rfl, hb11⟩
    refine ⟨_, rfl, ?_⟩
    have h11 := hr10.ret hb11 34 (.v (.int .i64 (whl x))) rfl _ (hr10.all.below hb11) (by simp) rfl
    refine seg cfg17_ok mixed PanicFree.body 1000 [] [] h11 (by first | trivial | exact HpRep.nil | assumption) (by kernel_rfl) fun s_ hs_ => ?_
    simp (maxSteps := 10000000) [SX.vc, SX.stop, SX.contS, SX.contB, SX.contW, SX.contR, SX.contD, SX.sxStep, SX.stepPure, SX.stepNew, SX.stepStore, SX.stepKeep, SX.guardIx, SX.evOp, SX.opd, SX.opds, SX.optOpd, SX.look, SX.putS, SX.gobs, SX.AllP, SX.leave, SX.lookC, SX.lookB, SX.lookT, SX.lookN, SX.findK, SX.evBuiltin, SX.ints, SX.foldI, SX.evBin, SX.evInt, SX.evStr, SX.evEq, SX.arith, SX.evLoad, SX.shapeUp, SX.evFieldAddr, SX.evField, SX.evIndexAddr, SX.evIndex, SX.evFill, SX.evBuild, SX.szs, SX.cellsV, SX.evNew, SX.evStore, SX.spliceL, SX.SV.cells, SX.evConv, SX.evSlice, SX.bnd, SX.evNil, SX.evUn, SX.evPick, SX.pickOpd, SX.popTo, SX.cnd, SX.env0, SX.TD.isAgg, SX.TD.isIface, SX.tails, SX.NotAgg, SX.evLookup, SX.evConvH, SX.evPtrEq, SX.isCells, SX.thaw, SX.frz, SX.fixB, SX.rootIx, SX.Froz, SX.frzStep, SX.fork, Go.Value.cells, Go.undef, cfg17]
    refine ⟨by (unfold SX.Ob; first | trivial | omega | ((try simp only [SX.inK]); (try simp [SX.den, SX.IsU8, SX.AllP, *]); (try omega))), ?_⟩
    intro a12 w12 hr12 _
    exact post_rnd (d.Z.length - (k + 1)) (by omega) ⟨k + 1, rfl, hlt, hr12.re (by rw [hstep]; simp [envTo, SX.look, den]) ⟨⟨by simpa [SO.rep, denL, den, devC] using hr12.all.1.1, by simp, by simp⟩, trivial⟩ rfl rfl⟩
  · obtain rfl : k = d.Z.length := by omega
    have hw0 := hwb d.Z.length hk
    obtain ⟨s, hs⟩ : ∃ s, wst d.Z (cntE L) d.Z.length = s := ⟨_, rfl⟩
    rw [hs] at hw0 hr8
    obtain ⟨q, hq⟩ : ∃ q, maxZ s = q := ⟨_, rfl⟩
    have hq2 : (if s < 0 then 0 else s) = q := hq
    refine seg cfg17_ok mixed PanicFree.body 1000 [false] [] hr8 (by first | trivial | exact HpRep.nil | assumption) (by kernel_rfl) fun s_ hs_ => ?_
    simp (maxSteps := 10000000) [SX.vc, SX.stop, SX.contS, SX.contB, SX.contW, SX.contR, SX.contD, SX.sxStep, SX.stepPure, SX.stepNew, SX.stepStore, SX.stepKeep, SX.guardIx, SX.evOp, SX.opd, SX.opds, SX.optOpd, SX.look, SX.putS, SX.gobs, SX.AllP, SX.leave, SX.lookC, SX.lookB, SX.lookT, SX.lookN, SX.findK, SX.evBuiltin, SX.ints, SX.foldI, SX.evBin, SX.evInt, SX.evStr, SX.evEq, SX.arith, SX.evLoad, SX.shapeUp, SX.evFieldAddr, SX.evField, SX.evIndexAddr, SX.evIndex, SX.evFill, SX.evBuild, SX.szs, SX.cellsV, SX.evNew, SX.evStore, SX.spliceL, SX.SV.cells, SX.evConv, SX.evSlice, SX.bnd, SX.evNil, SX.evUn, SX.evPick, SX.pickOpd, SX.popTo, SX.cnd, SX.env0, SX.TD.isAgg, SX.TD.isIface, SX.tails, SX.NotAgg, SX.evLookup, SX.evConvH, SX.evPtrEq, SX.isCells, SX.thaw, SX.frz, SX.fixB, SX.rootIx, SX.Froz, SX.frzStep, SX.fork, Go.Value.cells, Go.undef, cfg17, hq2]
    refine ⟨by (unfold SX.Ob; first | trivial | omega | ((try simp only [SX.inK]); (try simp [SX.den, SX.IsU8, SX.AllP, *]); (try omega))), ?_⟩
    intro a9 w9 hr9' _
    have hr9 := hr7b.unbase hr9'
    exact post_retn (end2 hr9 rfl rfl rfl ⟨by rw [hs, hq]; simp [den, denL], hr9.keeps.toBelow⟩).1
end Go.Proofs
