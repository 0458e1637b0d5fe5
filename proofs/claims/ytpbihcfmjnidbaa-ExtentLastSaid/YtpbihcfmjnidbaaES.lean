/- ExtentParts: parts and gaps together have each block once; put back, the list is as it was. -/
import Derived.Test.YtpbihcfmjnidbaaERl
namespace Go.Proofs
set_option linter.unusedVariables false
set_option linter.unusedSimpArgs false
open Go Go.SX Go.RowKit

theorem many_sum {A : List Ext} (h : Chk A) : manyE A = sumN A := if_pos h

theorem sumN_bound {A : List Ext} (h : AllMay A) : 0 ≤ sumN A ∧ sumN A ≤ 1099511627776 * (A.length : Int) := by
  induction A with
  | nil => simp [sumN]
  | cons x r ih =>
    have hx := h x (by simp)
    unfold May at hx
    have := ih fun e he => h e (by simp [he])
    simp only [sumN, List.length_cons]
    omega

set_option maxRecDepth 100000 in
set_option maxHeartbeats 16000000 in
theorem parts_ok {P : Nat → Prop} (w : World) (v : Value) (L : List Ext) (lba n : Int) (hL : RdE P w v L) (hlen : L.length ≤ 1000000000000000) : Calls Try.prog 7 (denL [.v v, .v (.int .i64 lba), .v (.int .i64 n)]).toArray w (Ret w (.v (.bool true))) := by
  obtain ⟨ad, cp, rfl⟩ := hL.slice
  refine enter (F := frame0 w) Try.func7 rfl [.v (.slice ad L.length cp), .v (.int .i64 lba), .v (.int .i64 n)] [] (by simp [Try.f7]) trivial (keeps0 w) fun a hr => ?_
  refine seg cfg7_ok mixed PanicFree.body 1000 [] [] hr (by first | trivial | exact HpRep.nil | assumption) (by kernel_rfl) fun s_ hs_ => ?_
  simp (maxSteps := 10000000) [SX.vc, SX.stop, SX.contS, SX.contB, SX.contW, SX.contR, SX.contD, SX.sxStep, SX.stepPure, SX.stepNew, SX.stepStore, SX.stepKeep, SX.guardIx, SX.evOp, SX.opd, SX.opds, SX.optOpd, SX.look, SX.putS, SX.gobs, SX.AllP, SX.leave, SX.lookC, SX.lookB, SX.lookT, SX.lookN, SX.findK, SX.evBuiltin, SX.ints, SX.foldI, SX.evBin, SX.evInt, SX.evStr, SX.evEq, SX.arith, SX.evLoad, SX.shapeUp, SX.evFieldAddr, SX.evField, SX.evIndexAddr, SX.evIndex, SX.evFill, SX.evBuild, SX.szs, SX.cellsV, SX.evNew, SX.evStore, SX.spliceL, SX.SV.cells, SX.evConv, SX.evSlice, SX.bnd, SX.evNil, SX.evUn, SX.evPick, SX.pickOpd, SX.popTo, SX.cnd, SX.env0, SX.TD.isAgg, SX.TD.isIface, SX.tails, SX.NotAgg, SX.evLookup, SX.evConvH, SX.evPtrEq, SX.isCells, SX.thaw, SX.frz, SX.fixB, SX.rootIx, SX.Froz, SX.frzStep, SX.fork, Go.Value.cells, Go.undef, cfg7, Try.f7]
  refine ⟨by (unfold SX.Ob; first | trivial | omega | ((try simp only [SX.inK]); (try simp [SX.den, SX.IsU8, SX.AllP, *]); (try omega))), ?_⟩
  intro a1 w1 hr1 _
  refine post_call 8 [] hr1 (by first | exact wanted_none rfl | exact wanted_zero (hr1.env.same rfl rfl rfl rfl) rfl (by simp)) rfl (callable 8 Try.func8) (live_ok w1) ?_
  rintro e2 w2 ⟨rfl, hb2⟩
  refine ⟨_, rfl, ?_⟩
  have h2 := hr1.ret hb2 19 (.v (.bool true)) rfl _ (hr1.all.below hb2) (by simp) rfl
  refine seg cfg7_ok mixed PanicFree.body 1000 [] [] h2 (by first | trivial | exact HpRep.nil | assumption) (by kernel_rfl) fun sF hsF => ?_
  simp (maxSteps := 10000000) [SX.vc, SX.stop, SX.contS, SX.contB, SX.contW, SX.contR, SX.contD, SX.sxStep, SX.stepPure, SX.stepNew, SX.stepStore, SX.stepKeep, SX.guardIx, SX.evOp, SX.opd, SX.opds, SX.optOpd, SX.look, SX.putS, SX.gobs, SX.AllP, SX.leave, SX.lookC, SX.lookB, SX.lookT, SX.lookN, SX.findK, SX.evBuiltin, SX.ints, SX.foldI, SX.evBin, SX.evInt, SX.evStr, SX.evEq, SX.arith, SX.evLoad, SX.shapeUp, SX.evFieldAddr, SX.evField, SX.evIndexAddr, SX.evIndex, SX.evFill, SX.evBuild, SX.szs, SX.cellsV, SX.evNew, SX.evStore, SX.spliceL, SX.SV.cells, SX.evConv, SX.evSlice, SX.bnd, SX.evNil, SX.evUn, SX.evPick, SX.pickOpd, SX.popTo, SX.cnd, SX.env0, SX.TD.isAgg, SX.TD.isIface, SX.tails, SX.NotAgg, SX.evLookup, SX.evConvH, SX.evPtrEq, SX.isCells, SX.thaw, SX.frz, SX.fixB, SX.rootIx, SX.Froz, SX.frzStep, SX.fork, Go.Value.cells, Go.undef, cfg7]
  refine ⟨by (unfold SX.Ob; first | trivial | omega | ((try simp only [SX.inK]); (try simp [SX.den, SX.IsU8, SX.AllP, *]); (try omega))), ?_⟩
  intro a3 w3 hr3 _
  have hF3 : Calls Try.prog 9 (denL [.sl 0 sF 0 0 1 1 1]).toArray w3 (FewPost w3 1 [L]) := few_one hr3.all.1.1 rfl ⟨ad, cp, rfl⟩
  refine post_call 9 [.sl 0 sF 0 0 1 1 1] hr3 (by first | exact wanted_none rfl | exact wanted_zero (hr3.env.same rfl rfl rfl rfl) rfl (by simp)) rfl (callable 9 Try.func9) (hF3) ?_
  rintro e4 w4 ⟨r4, rfl, hr4, hb4⟩
  refine ⟨_, rfl, ?_⟩
  have h4 := hr3.ret hb4 22 (.v (.bool r4)) rfl _ (hr3.all.below hb4) (by simp) rfl
  rw [allFew_one] at hr4
  rcases r4 with _ | _
  · refine seg cfg7_ok mixed PanicFree.body 1000 [true] [(24, true)] h4 (by first | trivial | exact HpRep.nil | assumption) (by kernel_rfl) fun s_ hs_ => ?_
    simp (maxSteps := 10000000) [SX.vc, SX.stop, SX.contS, SX.contB, SX.contW, SX.contR, SX.contD, SX.sxStep, SX.stepPure, SX.stepNew, SX.stepStore, SX.stepKeep, SX.guardIx, SX.evOp, SX.opd, SX.opds, SX.optOpd, SX.look, SX.putS, SX.gobs, SX.AllP, SX.leave, SX.lookC, SX.lookB, SX.lookT, SX.lookN, SX.findK, SX.evBuiltin, SX.ints, SX.foldI, SX.evBin, SX.evInt, SX.evStr, SX.evEq, SX.arith, SX.evLoad, SX.shapeUp, SX.evFieldAddr, SX.evField, SX.evIndexAddr, SX.evIndex, SX.evFill, SX.evBuild, SX.szs, SX.cellsV, SX.evNew, SX.evStore, SX.spliceL, SX.SV.cells, SX.evConv, SX.evSlice, SX.bnd, SX.evNil, SX.evUn, SX.evPick, SX.pickOpd, SX.popTo, SX.cnd, SX.env0, SX.TD.isAgg, SX.TD.isIface, SX.tails, SX.NotAgg, SX.evLookup, SX.evConvH, SX.evPtrEq, SX.isCells, SX.thaw, SX.frz, SX.fixB, SX.rootIx, SX.Froz, SX.frzStep, SX.fork, Go.Value.cells, Go.undef, cfg7]
    refine ⟨by (unfold SX.Ob; first | trivial | omega | ((try simp only [SX.inK]); (try simp [SX.den, SX.IsU8, SX.AllP, *]); (try omega))), ?_⟩
    intro a5 w5 hr5 _
    exact post_retn (end1 hr5 rfl rfl ⟨rfl, hr5.keeps.toBelow⟩).1
  have hn : L.length ≤ 300 := hr4.1 rfl
  have h4' := h4.see [] trivial
  refine seg cfg7_ok mixed PanicFree.body 1000 [] [(24, false)] h4' (by first | trivial | exact HpRep.nil | assumption) (by kernel_rfl) fun s_ hs_ => ?_
  simp (maxSteps := 10000000) [SX.vc, SX.stop, SX.contS, SX.contB, SX.contW, SX.contR, SX.contD, SX.sxStep, SX.stepPure, SX.stepNew, SX.stepStore, SX.stepKeep, SX.guardIx, SX.evOp, SX.opd, SX.opds, SX.optOpd, SX.look, SX.putS, SX.gobs, SX.AllP, SX.leave, SX.lookC, SX.lookB, SX.lookT, SX.lookN, SX.findK, SX.evBuiltin, SX.ints, SX.foldI, SX.evBin, SX.evInt, SX.evStr, SX.evEq, SX.arith, SX.evLoad, SX.shapeUp, SX.evFieldAddr, SX.evField, SX.evIndexAddr, SX.evIndex, SX.evFill, SX.evBuild, SX.szs, SX.cellsV, SX.evNew, SX.evStore, SX.spliceL, SX.SV.cells, SX.evConv, SX.evSlice, SX.bnd, SX.evNil, SX.evUn, SX.evPick, SX.pickOpd, SX.popTo, SX.cnd, SX.env0, SX.TD.isAgg, SX.TD.isIface, SX.tails, SX.NotAgg, SX.evLookup, SX.evConvH, SX.evPtrEq, SX.isCells, SX.thaw, SX.frz, SX.fixB, SX.rootIx, SX.Froz, SX.frzStep, SX.fork, Go.Value.cells, Go.undef, cfg7]
  refine ⟨by (unfold SX.Ob; first | trivial | omega | ((try simp only [SX.inK]); (try simp [SX.den, SX.IsU8, SX.AllP, *]); (try omega))), ?_⟩
  intro a5 w5 hr5 _
  refine post_call 10 [.v (.slice ad L.length cp)] hr5 (by first | exact wanted_none rfl | exact wanted_zero (hr5.env.same rfl rfl rfl rfl) rfl (by simp)) rfl (callable 10 Try.func10) (rcheck_ok w5 _ L (hL.below hr5.keeps.toBelow) (by omega)) ?_
  rintro e6 w6 ⟨rfl, hb6⟩
  refine ⟨_, rfl, ?_⟩
  have h6 := hr5.ret hb6 26 (.v (.int .i64 (chkE L))) rfl _ (hr5.all.below hb6) (by simp) rfl
  by_cases hC : Chk L
  rotate_left
  · have hc : chkE L = 1 := if_neg hC
    refine seg cfg7_ok mixed PanicFree.body 1000 [true] [(24, false)] h6 (by first | trivial | exact HpRep.nil | assumption) (by kernel_rfl) fun s_ hs_ => ?_
    simp (maxSteps := 10000000) [SX.vc, SX.stop, SX.contS, SX.contB, SX.contW, SX.contR, SX.contD, SX.sxStep, SX.stepPure, SX.stepNew, SX.stepStore, SX.stepKeep, SX.guardIx, SX.evOp, SX.opd, SX.opds, SX.optOpd, SX.look, SX.putS, SX.gobs, SX.AllP, SX.leave, SX.lookC, SX.lookB, SX.lookT, SX.lookN, SX.findK, SX.evBuiltin, SX.ints, SX.foldI, SX.evBin, SX.evInt, SX.evStr, SX.evEq, SX.arith, SX.evLoad, SX.shapeUp, SX.evFieldAddr, SX.evField, SX.evIndexAddr, SX.evIndex, SX.evFill, SX.evBuild, SX.szs, SX.cellsV, SX.evNew, SX.evStore, SX.spliceL, SX.SV.cells, SX.evConv, SX.evSlice, SX.bnd, SX.evNil, SX.evUn, SX.evPick, SX.pickOpd, SX.popTo, SX.cnd, SX.env0, SX.TD.isAgg, SX.TD.isIface, SX.tails, SX.NotAgg, SX.evLookup, SX.evConvH, SX.evPtrEq, SX.isCells, SX.thaw, SX.frz, SX.fixB, SX.rootIx, SX.Froz, SX.frzStep, SX.fork, Go.Value.cells, Go.undef, cfg7, hc]
    refine ⟨by (unfold SX.Ob; first | trivial | omega | ((try simp only [SX.inK]); (try simp [SX.den, SX.IsU8, SX.AllP, *]); (try omega))), ?_⟩
    intro a7 w7 hr7 _
    exact post_retn (end1 hr7 rfl rfl ⟨rfl, hr7.keeps.toBelow⟩).1
  have hc : chkE L = 0 := if_pos hC
  refine seg cfg7_ok mixed PanicFree.body 1000 [false] [(24, false)] h6 (by first | trivial | exact HpRep.nil | assumption) (by kernel_rfl) fun s_ hs_ => ?_
  simp (maxSteps := 10000000) [SX.vc, SX.stop, SX.contS, SX.contB, SX.contW, SX.contR, SX.contD, SX.sxStep, SX.stepPure, SX.stepNew, SX.stepStore, SX.stepKeep, SX.guardIx, SX.evOp, SX.opd, SX.opds, SX.optOpd, SX.look, SX.putS, SX.gobs, SX.AllP, SX.leave, SX.lookC, SX.lookB, SX.lookT, SX.lookN, SX.findK, SX.evBuiltin, SX.ints, SX.foldI, SX.evBin, SX.evInt, SX.evStr, SX.evEq, SX.arith, SX.evLoad, SX.shapeUp, SX.evFieldAddr, SX.evField, SX.evIndexAddr, SX.evIndex, SX.evFill, SX.evBuild, SX.szs, SX.cellsV, SX.evNew, SX.evStore, SX.spliceL, SX.SV.cells, SX.evConv, SX.evSlice, SX.bnd, SX.evNil, SX.evUn, SX.evPick, SX.pickOpd, SX.popTo, SX.cnd, SX.env0, SX.TD.isAgg, SX.TD.isIface, SX.tails, SX.NotAgg, SX.evLookup, SX.evConvH, SX.evPtrEq, SX.isCells, SX.thaw, SX.frz, SX.fixB, SX.rootIx, SX.Froz, SX.frzStep, SX.fork, Go.Value.cells, Go.undef, cfg7, hc]
  refine ⟨by (unfold SX.Ob; first | trivial | omega | ((try simp only [SX.inK]); (try simp [SX.den, SX.IsU8, SX.AllP, *]); (try omega))), ?_⟩
  intro a7 w7 hr7 _
  by_cases hB : Blocks lba n
  rotate_left
  · refine post_call 17 [.v (.slice ad L.length cp), .v (.int .i64 lba), .v (.int .i64 n)] hr7 (wanted_none rfl) rfl (callable 17 Try.func17) (Part_ok w7 _ L lba n (hL.below hr7.keeps.toBelow) (by omega)) ?_
    rintro e8 w8 (⟨_, hB', _⟩ | ⟨_, rfl, hb8⟩)
    · exact absurd hB' hB
    refine ⟨_, rfl, ?_⟩
    have h8 := hr7.ret hb8 34 (.tu [.v (.slice none 0 0), .v (.int .i64 1)]) rfl _ (hr7.all.below hb8) (by simp) rfl
    refine seg cfg7_ok mixed PanicFree.body 1000 [] [] h8 (by first | trivial | exact HpRep.nil | assumption) (by kernel_rfl) fun s_ hs_ => ?_
    simp (maxSteps := 10000000) [SX.vc, SX.stop, SX.contS, SX.contB, SX.contW, SX.contR, SX.contD, SX.sxStep, SX.stepPure, SX.stepNew, SX.stepStore, SX.stepKeep, SX.guardIx, SX.evOp, SX.opd, SX.opds, SX.optOpd, SX.look, SX.putS, SX.gobs, SX.AllP, SX.leave, SX.lookC, SX.lookB, SX.lookT, SX.lookN, SX.findK, SX.evBuiltin, SX.ints, SX.foldI, SX.evBin, SX.evInt, SX.evStr, SX.evEq, SX.arith, SX.evLoad, SX.shapeUp, SX.evFieldAddr, SX.evField, SX.evIndexAddr, SX.evIndex, SX.evFill, SX.evBuild, SX.szs, SX.cellsV, SX.evNew, SX.evStore, SX.spliceL, SX.SV.cells, SX.evConv, SX.evSlice, SX.bnd, SX.evNil, SX.evUn, SX.evPick, SX.pickOpd, SX.popTo, SX.cnd, SX.env0, SX.TD.isAgg, SX.TD.isIface, SX.tails, SX.NotAgg, SX.evLookup, SX.evConvH, SX.evPtrEq, SX.isCells, SX.thaw, SX.frz, SX.fixB, SX.rootIx, SX.Froz, SX.frzStep, SX.fork, Go.Value.cells, Go.undef, cfg7]
    refine ⟨by (unfold SX.Ob; first | trivial | omega | ((try simp only [SX.inK]); (try simp [SX.den, SX.IsU8, SX.AllP, *]); (try omega))), ?_⟩
    intro a9 w9 hr9 _
    refine post_call 20 [.v (.slice ad L.length cp), .v (.int .i64 lba), .v (.int .i64 n)] hr9 (wanted_none rfl) rfl (callable 20 Try.func20) (Gaps_ok w9 _ L lba n (hL.below hr9.keeps.toBelow) (by omega)) ?_
    rintro e10 w10 (⟨_, hB', _⟩ | ⟨_, rfl, hb10⟩)
    · exact absurd hB' hB
    refine ⟨_, rfl, ?_⟩
    have h10 := hr9.ret hb10 41 (.tu [.v (.slice none 0 0), .v (.int .i64 1)]) rfl _ (hr9.all.below hb10) (by simp) rfl
    refine seg cfg7_ok mixed PanicFree.body 1000 [] [] h10 (by first | trivial | exact HpRep.nil | assumption) (by kernel_rfl) fun s_ hs_ => ?_
    simp (maxSteps := 10000000) [SX.vc, SX.stop, SX.contS, SX.contB, SX.contW, SX.contR, SX.contD, SX.sxStep, SX.stepPure, SX.stepNew, SX.stepStore, SX.stepKeep, SX.guardIx, SX.evOp, SX.opd, SX.opds, SX.optOpd, SX.look, SX.putS, SX.gobs, SX.AllP, SX.leave, SX.lookC, SX.lookB, SX.lookT, SX.lookN, SX.findK, SX.evBuiltin, SX.ints, SX.foldI, SX.evBin, SX.evInt, SX.evStr, SX.evEq, SX.arith, SX.evLoad, SX.shapeUp, SX.evFieldAddr, SX.evField, SX.evIndexAddr, SX.evIndex, SX.evFill, SX.evBuild, SX.szs, SX.cellsV, SX.evNew, SX.evStore, SX.spliceL, SX.SV.cells, SX.evConv, SX.evSlice, SX.bnd, SX.evNil, SX.evUn, SX.evPick, SX.pickOpd, SX.popTo, SX.cnd, SX.env0, SX.TD.isAgg, SX.TD.isIface, SX.tails, SX.NotAgg, SX.evLookup, SX.evConvH, SX.evPtrEq, SX.isCells, SX.thaw, SX.frz, SX.fixB, SX.rootIx, SX.Froz, SX.frzStep, SX.fork, Go.Value.cells, Go.undef, cfg7]
    refine ⟨by (unfold SX.Ob; first | trivial | omega | ((try simp only [SX.inK]); (try simp [SX.den, SX.IsU8, SX.AllP, *]); (try omega))), ?_⟩
    intro a11 w11 hr11 _
    refine post_call 14 [.v (.slice ad L.length cp), .v (.int .i64 lba), .v (.int .i64 n)] hr11 (wanted_none rfl) rfl (callable 14 Try.func14) (Cut_ok w11 _ L lba n (hL.below hr11.keeps.toBelow) (by omega)) ?_
    rintro e12 w12 (⟨_, hB', _⟩ | ⟨_, rfl, hb12⟩)
    · exact absurd hB' hB
    refine ⟨_, rfl, ?_⟩
    have h12 := hr11.ret hb12 48 (.tu [.v (.slice none 0 0), .v (.int .i64 1)]) rfl _ (hr11.all.below hb12) (by simp) rfl
    refine seg cfg7_ok mixed PanicFree.body 1000 [false, true] [(54, false), (62, true)] h12 (by first | trivial | exact HpRep.nil | assumption) (by kernel_rfl) fun s_ hs_ => ?_
    simp (maxSteps := 10000000) [SX.vc, SX.stop, SX.contS, SX.contB, SX.contW, SX.contR, SX.contD, SX.sxStep, SX.stepPure, SX.stepNew, SX.stepStore, SX.stepKeep, SX.guardIx, SX.evOp, SX.opd, SX.opds, SX.optOpd, SX.look, SX.putS, SX.gobs, SX.AllP, SX.leave, SX.lookC, SX.lookB, SX.lookT, SX.lookN, SX.findK, SX.evBuiltin, SX.ints, SX.foldI, SX.evBin, SX.evInt, SX.evStr, SX.evEq, SX.arith, SX.evLoad, SX.shapeUp, SX.evFieldAddr, SX.evField, SX.evIndexAddr, SX.evIndex, SX.evFill, SX.evBuild, SX.szs, SX.cellsV, SX.evNew, SX.evStore, SX.spliceL, SX.SV.cells, SX.evConv, SX.evSlice, SX.bnd, SX.evNil, SX.evUn, SX.evPick, SX.pickOpd, SX.popTo, SX.cnd, SX.env0, SX.TD.isAgg, SX.TD.isIface, SX.tails, SX.NotAgg, SX.evLookup, SX.evConvH, SX.evPtrEq, SX.isCells, SX.thaw, SX.frz, SX.fixB, SX.rootIx, SX.Froz, SX.frzStep, SX.fork, Go.Value.cells, Go.undef, cfg7]
    refine ⟨by (unfold SX.Ob; first | trivial | omega | ((try simp only [SX.inK]); (try simp [SX.den, SX.IsU8, SX.AllP, *]); (try omega))), ?_⟩
    intro a13 w13 hr13 _
    exact post_retn (end1 hr13 rfl rfl ⟨rfl, hr13.keeps.toBelow⟩).1
  refine post_call 17 [.v (.slice ad L.length cp), .v (.int .i64 lba), .v (.int .i64 n)] hr7 (wanted_none rfl) rfl (callable 17 Try.func17) (Part_ok w7 _ L lba n (hL.below hr7.keeps.toBelow) (by omega)) ?_
  rintro e8 w8 (⟨_, _, i1, k1, vq, rfl, hK1, hQ8, hb8⟩ | ⟨hno, _⟩)
  rotate_left
  · exact absurd ⟨hC, hB⟩ hno
  refine ⟨_, rfl, ?_⟩
  have h8 := hr7.ret hb8 34 (.tu [.v vq, .v (.int .i64 0)]) (v := .tuple #[vq, .int .i64 0]) (by simp [den, denL]) _ (hr7.all.below hb8) (by simp) rfl
  refine seg cfg7_ok mixed PanicFree.body 1000 [] [] h8.rebase (by first | trivial | exact HpRep.nil | assumption) (by kernel_rfl) fun s_ hs_ => ?_
  simp (maxSteps := 10000000) [SX.vc, SX.stop, SX.contS, SX.contB, SX.contW, SX.contR, SX.contD, SX.sxStep, SX.stepPure, SX.stepNew, SX.stepStore, SX.stepKeep, SX.guardIx, SX.evOp, SX.opd, SX.opds, SX.optOpd, SX.look, SX.putS, SX.gobs, SX.AllP, SX.leave, SX.lookC, SX.lookB, SX.lookT, SX.lookN, SX.findK, SX.evBuiltin, SX.ints, SX.foldI, SX.evBin, SX.evInt, SX.evStr, SX.evEq, SX.arith, SX.evLoad, SX.shapeUp, SX.evFieldAddr, SX.evField, SX.evIndexAddr, SX.evIndex, SX.evFill, SX.evBuild, SX.szs, SX.cellsV, SX.evNew, SX.evStore, SX.spliceL, SX.SV.cells, SX.evConv, SX.evSlice, SX.bnd, SX.evNil, SX.evUn, SX.evPick, SX.pickOpd, SX.popTo, SX.cnd, SX.env0, SX.TD.isAgg, SX.TD.isIface, SX.tails, SX.NotAgg, SX.evLookup, SX.evConvH, SX.evPtrEq, SX.isCells, SX.thaw, SX.frz, SX.fixB, SX.rootIx, SX.Froz, SX.frzStep, SX.fork, Go.Value.cells, Go.undef, cfg7]
  refine ⟨by (unfold SX.Ob; first | trivial | omega | ((try simp only [SX.inK]); (try simp [SX.den, SX.IsU8, SX.AllP, *]); (try omega))), ?_⟩
  intro a9 w9 hr9' _
  have hr9 := h8.unbase hr9'
  have hQ9 := hQ8.keep hr9'.keeps (by simp [frameAt, mutB])
  refine post_call 20 [.v (.slice ad L.length cp), .v (.int .i64 lba), .v (.int .i64 n)] hr9 (wanted_none rfl) rfl (callable 20 Try.func20) (Gaps_ok w9 _ L lba n (hL.below hr9.keeps.toBelow) (by omega)) ?_
  rintro e10 w10 (⟨_, _, i2, k2, vg, rfl, hK2, hG10, hb10⟩ | ⟨hno, _⟩)
  rotate_left
  · exact absurd ⟨hC, hB⟩ hno
  refine ⟨_, rfl, ?_⟩
  have h10 := hr9.ret hb10 41 (.tu [.v vg, .v (.int .i64 0)]) (v := .tuple #[vg, .int .i64 0]) (by simp [den, denL]) _ (hr9.all.below hb10) (by simp) rfl
  refine seg cfg7_ok mixed PanicFree.body 1000 [] [] h10.rebase (by first | trivial | exact HpRep.nil | assumption) (by kernel_rfl) fun s_ hs_ => ?_
  simp (maxSteps := 10000000) [SX.vc, SX.stop, SX.contS, SX.contB, SX.contW, SX.contR, SX.contD, SX.sxStep, SX.stepPure, SX.stepNew, SX.stepStore, SX.stepKeep, SX.guardIx, SX.evOp, SX.opd, SX.opds, SX.optOpd, SX.look, SX.putS, SX.gobs, SX.AllP, SX.leave, SX.lookC, SX.lookB, SX.lookT, SX.lookN, SX.findK, SX.evBuiltin, SX.ints, SX.foldI, SX.evBin, SX.evInt, SX.evStr, SX.evEq, SX.arith, SX.evLoad, SX.shapeUp, SX.evFieldAddr, SX.evField, SX.evIndexAddr, SX.evIndex, SX.evFill, SX.evBuild, SX.szs, SX.cellsV, SX.evNew, SX.evStore, SX.spliceL, SX.SV.cells, SX.evConv, SX.evSlice, SX.bnd, SX.evNil, SX.evUn, SX.evPick, SX.pickOpd, SX.popTo, SX.cnd, SX.env0, SX.TD.isAgg, SX.TD.isIface, SX.tails, SX.NotAgg, SX.evLookup, SX.evConvH, SX.evPtrEq, SX.isCells, SX.thaw, SX.frz, SX.fixB, SX.rootIx, SX.Froz, SX.frzStep, SX.fork, Go.Value.cells, Go.undef, cfg7]
  refine ⟨by (unfold SX.Ob; first | trivial | omega | ((try simp only [SX.inK]); (try simp [SX.den, SX.IsU8, SX.AllP, *]); (try omega))), ?_⟩
  intro a11 w11 hr11' _
  have hr11 := h10.unbase hr11'
  have hQ11 := (hQ9.below hb10).keep hr11'.keeps (by simp [frameAt, mutB])
  have hG11 := hG10.keep hr11'.keeps (by simp [frameAt, mutB])
  refine post_call 14 [.v (.slice ad L.length cp), .v (.int .i64 lba), .v (.int .i64 n)] hr11 (wanted_none rfl) rfl (callable 14 Try.func14) (Cut_ok w11 _ L lba n (hL.below hr11.keeps.toBelow) (by omega)) ?_
  rintro e12 w12 (⟨_, _, i3, k3, vc, rfl, hK3, hC12, hb12⟩ | ⟨hno, _⟩)
  rotate_left
  · exact absurd ⟨hC, hB⟩ hno
  refine ⟨_, rfl, ?_⟩
  have h12 := hr11.ret hb12 48 (.tu [.v vc, .v (.int .i64 0)]) (v := .tuple #[vc, .int .i64 0]) (by simp [den, denL]) _ (hr11.all.below hb12) (by simp) rfl
  have hAP := allParts hC hn hB hK1 hK2 hK3
  obtain ⟨Q, hQe⟩ : ∃ Q, Q = partL L lba n i1 k1 := ⟨_, rfl⟩
  obtain ⟨G, hGe⟩ : ∃ G, G = gapGo lba (lba + n) (partL L lba n i2 k2) := ⟨_, rfl⟩
  obtain ⟨C, hCe⟩ : ∃ C, C = replL L lba n [] i3 k3 := ⟨_, rfl⟩
  rw [← hQe, ← hGe, ← hCe] at hAP
  rw [← hQe] at hQ11
  rw [← hGe] at hG11
  rw [← hCe] at hC12
  clear hQe hGe hCe
  have hql := hAP.ql
  have hgl := hAP.gl
  have hcl := hAP.cl
  have s1 := hAP.sum1 hB
  have s2 := hAP.sum2 hC
  have b1 := sumN_bound hAP.q.good.may
  have b2 := sumN_bound hAP.g.may
  have b3 := sumN_bound hAP.c.good.may
  have b4 := sumN_bound hC.all
  refine seg cfg7_ok mixed PanicFree.body 1000 [false, false] [(54, false)] h12.rebase (by first | trivial | exact HpRep.nil | assumption) (by kernel_rfl) fun s_ hs_ => ?_
  simp (maxSteps := 10000000) [SX.vc, SX.stop, SX.contS, SX.contB, SX.contW, SX.contR, SX.contD, SX.sxStep, SX.stepPure, SX.stepNew, SX.stepStore, SX.stepKeep, SX.guardIx, SX.evOp, SX.opd, SX.opds, SX.optOpd, SX.look, SX.putS, SX.gobs, SX.AllP, SX.leave, SX.lookC, SX.lookB, SX.lookT, SX.lookN, SX.findK, SX.evBuiltin, SX.ints, SX.foldI, SX.evBin, SX.evInt, SX.evStr, SX.evEq, SX.arith, SX.evLoad, SX.shapeUp, SX.evFieldAddr, SX.evField, SX.evIndexAddr, SX.evIndex, SX.evFill, SX.evBuild, SX.szs, SX.cellsV, SX.evNew, SX.evStore, SX.spliceL, SX.SV.cells, SX.evConv, SX.evSlice, SX.bnd, SX.evNil, SX.evUn, SX.evPick, SX.pickOpd, SX.popTo, SX.cnd, SX.env0, SX.TD.isAgg, SX.TD.isIface, SX.tails, SX.NotAgg, SX.evLookup, SX.evConvH, SX.evPtrEq, SX.isCells, SX.thaw, SX.frz, SX.fixB, SX.rootIx, SX.Froz, SX.frzStep, SX.fork, Go.Value.cells, Go.undef, cfg7]
  refine ⟨by (unfold SX.Ob; first | trivial | omega | ((try simp only [SX.inK]); (try simp [SX.den, SX.IsU8, SX.AllP, *]); (try omega))), ?_⟩
  intro a13 w13 hr13' _
  have hr13 := h12.unbase hr13'
  have hQ13 := (hQ11.below hb12).keep hr13'.keeps (by simp [frameAt, mutB])
  have hG13 := (hG11.below hb12).keep hr13'.keeps (by simp [frameAt, mutB])
  have hC13 := hC12.keep hr13'.keeps (by simp [frameAt, mutB])
  have mq := many_sum hAP.q.good.chk
  have mg := many_sum hAP.g.chk
  have mc := many_sum hAP.c
  have ml := many_sum hC
  have hMq := many_ok w13 vq Q hQ13.rd (by omega)
  rw [mq] at hMq
  refine post_call 15 [.v vq] hr13 (by first | exact wanted_none rfl | exact wanted_zero (hr13.env.same rfl rfl rfl rfl) rfl (by simp)) rfl (callable 15 Try.func15) (hMq) ?_
  rintro e14 w14 ⟨rfl, hb14⟩
  refine ⟨_, rfl, ?_⟩
  have h14 := hr13.ret hb14 74 (.v (.int .i64 (sumN Q))) rfl _ (hr13.all.below hb14) (by simp) rfl
  refine seg cfg7_ok mixed PanicFree.body 1000 [] [] h14.rebase (by first | trivial | exact HpRep.nil | assumption) (by kernel_rfl) fun s_ hs_ => ?_
  simp (maxSteps := 10000000) [SX.vc, SX.stop, SX.contS, SX.contB, SX.contW, SX.contR, SX.contD, SX.sxStep, SX.stepPure, SX.stepNew, SX.stepStore, SX.stepKeep, SX.guardIx, SX.evOp, SX.opd, SX.opds, SX.optOpd, SX.look, SX.putS, SX.gobs, SX.AllP, SX.leave, SX.lookC, SX.lookB, SX.lookT, SX.lookN, SX.findK, SX.evBuiltin, SX.ints, SX.foldI, SX.evBin, SX.evInt, SX.evStr, SX.evEq, SX.arith, SX.evLoad, SX.shapeUp, SX.evFieldAddr, SX.evField, SX.evIndexAddr, SX.evIndex, SX.evFill, SX.evBuild, SX.szs, SX.cellsV, SX.evNew, SX.evStore, SX.spliceL, SX.SV.cells, SX.evConv, SX.evSlice, SX.bnd, SX.evNil, SX.evUn, SX.evPick, SX.pickOpd, SX.popTo, SX.cnd, SX.env0, SX.TD.isAgg, SX.TD.isIface, SX.tails, SX.NotAgg, SX.evLookup, SX.evConvH, SX.evPtrEq, SX.isCells, SX.thaw, SX.frz, SX.fixB, SX.rootIx, SX.Froz, SX.frzStep, SX.fork, Go.Value.cells, Go.undef, cfg7]
  refine ⟨by (unfold SX.Ob; first | trivial | omega | ((try simp only [SX.inK]); (try simp [SX.den, SX.IsU8, SX.AllP, *]); (try omega))), ?_⟩
  intro a15 w15 hr15' _
  have hr15 := h14.unbase hr15'
  have hQ15 := (hQ13.below hb14).keep hr15'.keeps (by simp [frameAt, mutB])
  have hG15 := (hG13.below hb14).keep hr15'.keeps (by simp [frameAt, mutB])
  have hC15 := (hC13.below hb14).keep hr15'.keeps (by simp [frameAt, mutB])
  have hMg := many_ok w15 vg G hG15.rd (by omega)
  rw [mg] at hMg
  refine post_call 15 [.v vg] hr15 (by first | exact wanted_none rfl | exact wanted_zero (hr15.env.same rfl rfl rfl rfl) rfl (by simp)) rfl (callable 15 Try.func15) (hMg) ?_
  rintro e16 w16 ⟨rfl, hb16⟩
  refine ⟨_, rfl, ?_⟩
  have h16 := hr15.ret hb16 76 (.v (.int .i64 (sumN G))) rfl _ (hr15.all.below hb16) (by simp) rfl
  have s1' : ((sumN Q + sumN G) != n) = false := by simp [s1]
  refine seg cfg7_ok mixed PanicFree.body 1000 [] [(80, false)] h16.rebase (by first | trivial | exact HpRep.nil | assumption) (by kernel_rfl) fun s_ hs_ => ?_
  simp (maxSteps := 10000000) [SX.vc, SX.stop, SX.contS, SX.contB, SX.contW, SX.contR, SX.contD, SX.sxStep, SX.stepPure, SX.stepNew, SX.stepStore, SX.stepKeep, SX.guardIx, SX.evOp, SX.opd, SX.opds, SX.optOpd, SX.look, SX.putS, SX.gobs, SX.AllP, SX.leave, SX.lookC, SX.lookB, SX.lookT, SX.lookN, SX.findK, SX.evBuiltin, SX.ints, SX.foldI, SX.evBin, SX.evInt, SX.evStr, SX.evEq, SX.arith, SX.evLoad, SX.shapeUp, SX.evFieldAddr, SX.evField, SX.evIndexAddr, SX.evIndex, SX.evFill, SX.evBuild, SX.szs, SX.cellsV, SX.evNew, SX.evStore, SX.spliceL, SX.SV.cells, SX.evConv, SX.evSlice, SX.bnd, SX.evNil, SX.evUn, SX.evPick, SX.pickOpd, SX.popTo, SX.cnd, SX.env0, SX.TD.isAgg, SX.TD.isIface, SX.tails, SX.NotAgg, SX.evLookup, SX.evConvH, SX.evPtrEq, SX.isCells, SX.thaw, SX.frz, SX.fixB, SX.rootIx, SX.Froz, SX.frzStep, SX.fork, Go.Value.cells, Go.undef, cfg7, s1']
  refine ⟨by (unfold SX.Ob; first | trivial | omega | ((try simp only [SX.inK]); (try simp [SX.den, SX.IsU8, SX.AllP, *]); (try omega))), ?_⟩
  intro a17 w17 hr17' _
  have hr17 := h16.unbase hr17'
  have hQ17 := (hQ15.below hb16).keep hr17'.keeps (by simp [frameAt, mutB])
  have hG17 := (hG15.below hb16).keep hr17'.keeps (by simp [frameAt, mutB])
  have hC17 := (hC15.below hb16).keep hr17'.keeps (by simp [frameAt, mutB])
  have hMc := many_ok w17 vc C hC17.rd (by omega)
  rw [mc] at hMc
  refine post_call 15 [.v vc] hr17 (by first | exact wanted_none rfl | exact wanted_zero (hr17.env.same rfl rfl rfl rfl) rfl (by simp)) rfl (callable 15 Try.func15) (hMc) ?_
  rintro e18 w18 ⟨rfl, hb18⟩
  refine ⟨_, rfl, ?_⟩
  have h18 := hr17.ret hb18 82 (.v (.int .i64 (sumN C))) rfl _ (hr17.all.below hb18) (by simp) rfl
  refine seg cfg7_ok mixed PanicFree.body 1000 [] [(80, false)] h18.rebase (by first | trivial | exact HpRep.nil | assumption) (by kernel_rfl) fun s_ hs_ => ?_
  simp (maxSteps := 10000000) [SX.vc, SX.stop, SX.contS, SX.contB, SX.contW, SX.contR, SX.contD, SX.sxStep, SX.stepPure, SX.stepNew, SX.stepStore, SX.stepKeep, SX.guardIx, SX.evOp, SX.opd, SX.opds, SX.optOpd, SX.look, SX.putS, SX.gobs, SX.AllP, SX.leave, SX.lookC, SX.lookB, SX.lookT, SX.lookN, SX.findK, SX.evBuiltin, SX.ints, SX.foldI, SX.evBin, SX.evInt, SX.evStr, SX.evEq, SX.arith, SX.evLoad, SX.shapeUp, SX.evFieldAddr, SX.evField, SX.evIndexAddr, SX.evIndex, SX.evFill, SX.evBuild, SX.szs, SX.cellsV, SX.evNew, SX.evStore, SX.spliceL, SX.SV.cells, SX.evConv, SX.evSlice, SX.bnd, SX.evNil, SX.evUn, SX.evPick, SX.pickOpd, SX.popTo, SX.cnd, SX.env0, SX.TD.isAgg, SX.TD.isIface, SX.tails, SX.NotAgg, SX.evLookup, SX.evConvH, SX.evPtrEq, SX.isCells, SX.thaw, SX.frz, SX.fixB, SX.rootIx, SX.Froz, SX.frzStep, SX.fork, Go.Value.cells, Go.undef, cfg7, s1']
  refine ⟨by (unfold SX.Ob; first | trivial | omega | ((try simp only [SX.inK]); (try simp [SX.den, SX.IsU8, SX.AllP, *]); (try omega))), ?_⟩
  intro a19 w19 hr19' _
  have hr19 := h18.unbase hr19'
  have hQ19 := (hQ17.below hb18).keep hr19'.keeps (by simp [frameAt, mutB])
  have hG19 := (hG17.below hb18).keep hr19'.keeps (by simp [frameAt, mutB])
  have hC19 := (hC17.below hb18).keep hr19'.keeps (by simp [frameAt, mutB])
  have hMq2 := many_ok w19 vq Q hQ19.rd (by omega)
  rw [mq] at hMq2
  refine post_call 15 [.v vq] hr19 (by first | exact wanted_none rfl | exact wanted_zero (hr19.env.same rfl rfl rfl rfl) rfl (by simp)) rfl (callable 15 Try.func15) (hMq2) ?_
  rintro e20 w20 ⟨rfl, hb20⟩
  refine ⟨_, rfl, ?_⟩
  have h20 := hr19.ret hb20 84 (.v (.int .i64 (sumN Q))) rfl _ (hr19.all.below hb20) (by simp) rfl
  refine seg cfg7_ok mixed PanicFree.body 1000 [] [(80, false)] h20.rebase (by first | trivial | exact HpRep.nil | assumption) (by kernel_rfl) fun s_ hs_ => ?_
  simp (maxSteps := 10000000) [SX.vc, SX.stop, SX.contS, SX.contB, SX.contW, SX.contR, SX.contD, SX.sxStep, SX.stepPure, SX.stepNew, SX.stepStore, SX.stepKeep, SX.guardIx, SX.evOp, SX.opd, SX.opds, SX.optOpd, SX.look, SX.putS, SX.gobs, SX.AllP, SX.leave, SX.lookC, SX.lookB, SX.lookT, SX.lookN, SX.findK, SX.evBuiltin, SX.ints, SX.foldI, SX.evBin, SX.evInt, SX.evStr, SX.evEq, SX.arith, SX.evLoad, SX.shapeUp, SX.evFieldAddr, SX.evField, SX.evIndexAddr, SX.evIndex, SX.evFill, SX.evBuild, SX.szs, SX.cellsV, SX.evNew, SX.evStore, SX.spliceL, SX.SV.cells, SX.evConv, SX.evSlice, SX.bnd, SX.evNil, SX.evUn, SX.evPick, SX.pickOpd, SX.popTo, SX.cnd, SX.env0, SX.TD.isAgg, SX.TD.isIface, SX.tails, SX.NotAgg, SX.evLookup, SX.evConvH, SX.evPtrEq, SX.isCells, SX.thaw, SX.frz, SX.fixB, SX.rootIx, SX.Froz, SX.frzStep, SX.fork, Go.Value.cells, Go.undef, cfg7, s2]
  refine ⟨by (unfold SX.Ob; first | trivial | omega | ((try simp only [SX.inK]); (try simp [SX.den, SX.IsU8, SX.AllP, *]); (try omega))), ?_⟩
  intro a21 w21 hr21' _
  have hr21 := h20.unbase hr21'
  have hQ21 := (hQ19.below hb20).keep hr21'.keeps (by simp [frameAt, mutB])
  have hG21 := (hG19.below hb20).keep hr21'.keeps (by simp [frameAt, mutB])
  have hC21 := (hC19.below hb20).keep hr21'.keeps (by simp [frameAt, mutB])
  have hMl := many_ok w21 (.slice ad L.length cp) L (hL.below hr21.keeps.toBelow) (by omega)
  rw [ml] at hMl
  refine post_call 15 [.v (.slice ad L.length cp)] hr21 (by first | exact wanted_none rfl | exact wanted_zero (hr21.env.same rfl rfl rfl rfl) rfl (by simp)) rfl (callable 15 Try.func15) (hMl) ?_
  rintro e22 w22 ⟨rfl, hb22⟩
  refine ⟨_, rfl, ?_⟩
  have h22 := hr21.ret hb22 87 (.v (.int .i64 (sumN L))) rfl _ (hr21.all.below hb22) (by simp) rfl
  refine seg cfg7_ok mixed PanicFree.body 1000 [false] [(80, false)] h22.rebase (by first | trivial | exact HpRep.nil | assumption) (by kernel_rfl) fun s_ hs_ => ?_
  simp (maxSteps := 10000000) [SX.vc, SX.stop, SX.contS, SX.contB, SX.contW, SX.contR, SX.contD, SX.sxStep, SX.stepPure, SX.stepNew, SX.stepStore, SX.stepKeep, SX.guardIx, SX.evOp, SX.opd, SX.opds, SX.optOpd, SX.look, SX.putS, SX.gobs, SX.AllP, SX.leave, SX.lookC, SX.lookB, SX.lookT, SX.lookN, SX.findK, SX.evBuiltin, SX.ints, SX.foldI, SX.evBin, SX.evInt, SX.evStr, SX.evEq, SX.arith, SX.evLoad, SX.shapeUp, SX.evFieldAddr, SX.evField, SX.evIndexAddr, SX.evIndex, SX.evFill, SX.evBuild, SX.szs, SX.cellsV, SX.evNew, SX.evStore, SX.spliceL, SX.SV.cells, SX.evConv, SX.evSlice, SX.bnd, SX.evNil, SX.evUn, SX.evPick, SX.pickOpd, SX.popTo, SX.cnd, SX.env0, SX.TD.isAgg, SX.TD.isIface, SX.tails, SX.NotAgg, SX.evLookup, SX.evConvH, SX.evPtrEq, SX.isCells, SX.thaw, SX.frz, SX.fixB, SX.rootIx, SX.Froz, SX.frzStep, SX.fork, Go.Value.cells, Go.undef, cfg7, s2]
  refine ⟨by (unfold SX.Ob; first | trivial | omega | ((try simp only [SX.inK]); (try simp [SX.den, SX.IsU8, SX.AllP, *]); (try omega))), ?_⟩
  intro a23 w23 hr23' _
  have hr23 := h22.unbase hr23'
  have hQ23 := (hQ21.below hb22).keep hr23'.keeps (by simp [frameAt, mutB])
  have hG23 := (hG21.below hb22).keep hr23'.keeps (by simp [frameAt, mutB])
  have hC23 := (hC21.below hb22).keep hr23'.keeps (by simp [frameAt, mutB])
  refine post_call 12 [.v vc, .v vq] hr23 (wanted_none rfl) rfl (callable 12 Try.func12) (Put_ok w23 vc vq C Q hC23.rd hQ23.rd (by omega)) ?_
  rintro e24 w24 (⟨_, _, M, hPM, hMC, hres, hb24⟩ | ⟨hno, _⟩)
  rotate_left
  · exact absurd ⟨hAP.c, hAP.q.good.may⟩ hno
  obtain ⟨mk1, mk2, mk3⟩ := hAP.back hC hPM
  have mjl := join_len M
  obtain ⟨vb, rfl, hB24⟩ : ∃ v', e24 = .returned (den (.tu [.v v', .v (.int .i64 0)])) ∧ OwE (fun x => w23.heap.size ≤ x) w24 v' (joinE M) := by
    rcases hres with ⟨_, h⟩ | ⟨h, _⟩
    · exact h
    · omega
  refine ⟨_, rfl, ?_⟩
  have h24 := hr23.ret hb24 93 (.tu [.v vb, .v (.int .i64 0)]) (v := .tuple #[vb, .int .i64 0]) (by simp [den, denL]) _ (hr23.all.below hb24) (by simp) rfl
  refine seg cfg7_ok mixed PanicFree.body 1000 [] [] h24.rebase (by first | trivial | exact HpRep.nil | assumption) (by kernel_rfl) fun s_ hs_ => ?_
  simp (maxSteps := 10000000) [SX.vc, SX.stop, SX.contS, SX.contB, SX.contW, SX.contR, SX.contD, SX.sxStep, SX.stepPure, SX.stepNew, SX.stepStore, SX.stepKeep, SX.guardIx, SX.evOp, SX.opd, SX.opds, SX.optOpd, SX.look, SX.putS, SX.gobs, SX.AllP, SX.leave, SX.lookC, SX.lookB, SX.lookT, SX.lookN, SX.findK, SX.evBuiltin, SX.ints, SX.foldI, SX.evBin, SX.evInt, SX.evStr, SX.evEq, SX.arith, SX.evLoad, SX.shapeUp, SX.evFieldAddr, SX.evField, SX.evIndexAddr, SX.evIndex, SX.evFill, SX.evBuild, SX.szs, SX.cellsV, SX.evNew, SX.evStore, SX.spliceL, SX.SV.cells, SX.evConv, SX.evSlice, SX.bnd, SX.evNil, SX.evUn, SX.evPick, SX.pickOpd, SX.popTo, SX.cnd, SX.env0, SX.TD.isAgg, SX.TD.isIface, SX.tails, SX.NotAgg, SX.evLookup, SX.evConvH, SX.evPtrEq, SX.isCells, SX.thaw, SX.frz, SX.fixB, SX.rootIx, SX.Froz, SX.frzStep, SX.fork, Go.Value.cells, Go.undef, cfg7]
  refine ⟨by (unfold SX.Ob; first | trivial | omega | ((try simp only [SX.inK]); (try simp [SX.den, SX.IsU8, SX.AllP, *]); (try omega))), ?_⟩
  intro a25 w25 hr25' _
  have hr25 := h24.unbase hr25'
  have hQ25 := (hQ23.below hb24).keep hr25'.keeps (by simp [frameAt, mutB])
  have hG25 := (hG23.below hb24).keep hr25'.keeps (by simp [frameAt, mutB])
  have hB25 := hB24.keep hr25'.keeps (by simp [frameAt, mutB])
  refine post_call 12 [.v vg, .v vq] hr25 (wanted_none rfl) rfl (callable 12 Try.func12) (Put_ok w25 vg vq G Q hG25.rd hQ25.rd (by omega)) ?_
  rintro e26 w26 (⟨_, _, M', hPM', hMC', hres', hb26⟩ | ⟨hno, _⟩)
  rotate_left
  · exact absurd ⟨hAP.g.chk, hAP.q.good.may⟩ hno
  obtain ⟨wk1, wk2, wk3⟩ := hAP.whole hB hPM'
  have wjl := join_len M'
  obtain ⟨vw, rfl, hW26⟩ : ∃ v', e26 = .returned (den (.tu [.v v', .v (.int .i64 0)])) ∧ OwE (fun x => w25.heap.size ≤ x) w26 v' (joinE M') := by
    rcases hres' with ⟨_, h⟩ | ⟨h, _⟩
    · exact h
    · omega
  refine ⟨_, rfl, ?_⟩
  have h26 := hr25.ret hb26 99 (.tu [.v vw, .v (.int .i64 0)]) (v := .tuple #[vw, .int .i64 0]) (by simp [den, denL]) _ (hr25.all.below hb26) (by simp) rfl
  refine seg cfg7_ok mixed PanicFree.body 1000 [] [] h26.rebase (by first | trivial | exact HpRep.nil | assumption) (by kernel_rfl) fun s_ hs_ => ?_
  simp (maxSteps := 10000000) [SX.vc, SX.stop, SX.contS, SX.contB, SX.contW, SX.contR, SX.contD, SX.sxStep, SX.stepPure, SX.stepNew, SX.stepStore, SX.stepKeep, SX.guardIx, SX.evOp, SX.opd, SX.opds, SX.optOpd, SX.look, SX.putS, SX.gobs, SX.AllP, SX.leave, SX.lookC, SX.lookB, SX.lookT, SX.lookN, SX.findK, SX.evBuiltin, SX.ints, SX.foldI, SX.evBin, SX.evInt, SX.evStr, SX.evEq, SX.arith, SX.evLoad, SX.shapeUp, SX.evFieldAddr, SX.evField, SX.evIndexAddr, SX.evIndex, SX.evFill, SX.evBuild, SX.szs, SX.cellsV, SX.evNew, SX.evStore, SX.spliceL, SX.SV.cells, SX.evConv, SX.evSlice, SX.bnd, SX.evNil, SX.evUn, SX.evPick, SX.pickOpd, SX.popTo, SX.cnd, SX.env0, SX.TD.isAgg, SX.TD.isIface, SX.tails, SX.NotAgg, SX.evLookup, SX.evConvH, SX.evPtrEq, SX.isCells, SX.thaw, SX.frz, SX.fixB, SX.rootIx, SX.Froz, SX.frzStep, SX.fork, Go.Value.cells, Go.undef, cfg7]
  refine ⟨by (unfold SX.Ob; first | trivial | omega | ((try simp only [SX.inK]); (try simp [SX.den, SX.IsU8, SX.AllP, *]); (try omega))), ?_⟩
  intro a27 w27 hr27' _
  have hr27 := h26.unbase hr27'
  have hB27 := (hB25.below hb26).keep hr27'.keeps (by simp [frameAt, mutB])
  have hW27 := hW26.keep hr27'.keeps (by simp [frameAt, mutB])
  refine post_call 21 [.v (.slice ad L.length cp)] hr27 (by first | exact wanted_none rfl | exact wanted_zero (hr27.env.same rfl rfl rfl rfl) rfl (by simp)) rfl (callable 21 Try.func21) (join_ok w27 _ L (hL.below hr27.keeps.toBelow) (by omega)) ?_
  rintro e28 w28 ⟨vk, rfl, hK28, hb28⟩
  refine ⟨_, rfl, ?_⟩
  have h28 := hr27.ret hb28 103 (.v vk) rfl _ (hr27.all.below hb28) (by simp) rfl
  have kl := join_len L
  obtain ⟨j1, j2, j3⟩ := join_good hC
  obtain ⟨J, hJ⟩ : ∃ J, J = joinE L := ⟨_, rfl⟩
  obtain ⟨B, hBe⟩ : ∃ B, B = joinE M := ⟨_, rfl⟩
  obtain ⟨W, hWe⟩ : ∃ W, W = joinE M' := ⟨_, rfl⟩
  have hJJ : joinE J = J := by rw [hJ]; exact join_join hC
  have hBc : Chk B := hBe ▸ (join_good mk1).1.chk
  have hWc : Chk W := hWe ▸ (join_good wk1).1.chk
  rw [← hBe] at hB27 mk2 mjl
  rw [← hWe] at hW27 wk2 wjl
  rw [← hJ] at hK28 kl mk2 j1
  have same1 : decide (SameP B L) = true := decide_eq_true ⟨hBc, hC, mk2.trans hJ⟩
  have same2 : decide (SameP L J) = true := decide_eq_true ⟨hC, j1.chk, by rw [hJJ, ← hJ]⟩
  clear hJ hBe hWe
  refine seg cfg7_ok mixed PanicFree.body 1000 [] [(105, true), (109, true)] h28.rebase (by first | trivial | exact HpRep.nil | assumption) (by kernel_rfl) fun s_ hs_ => ?_
  simp (maxSteps := 10000000) [SX.vc, SX.stop, SX.contS, SX.contB, SX.contW, SX.contR, SX.contD, SX.sxStep, SX.stepPure, SX.stepNew, SX.stepStore, SX.stepKeep, SX.guardIx, SX.evOp, SX.opd, SX.opds, SX.optOpd, SX.look, SX.putS, SX.gobs, SX.AllP, SX.leave, SX.lookC, SX.lookB, SX.lookT, SX.lookN, SX.findK, SX.evBuiltin, SX.ints, SX.foldI, SX.evBin, SX.evInt, SX.evStr, SX.evEq, SX.arith, SX.evLoad, SX.shapeUp, SX.evFieldAddr, SX.evField, SX.evIndexAddr, SX.evIndex, SX.evFill, SX.evBuild, SX.szs, SX.cellsV, SX.evNew, SX.evStore, SX.spliceL, SX.SV.cells, SX.evConv, SX.evSlice, SX.bnd, SX.evNil, SX.evUn, SX.evPick, SX.pickOpd, SX.popTo, SX.cnd, SX.env0, SX.TD.isAgg, SX.TD.isIface, SX.tails, SX.NotAgg, SX.evLookup, SX.evConvH, SX.evPtrEq, SX.isCells, SX.thaw, SX.frz, SX.fixB, SX.rootIx, SX.Froz, SX.frzStep, SX.fork, Go.Value.cells, Go.undef, cfg7]
  refine ⟨by (unfold SX.Ob; first | trivial | omega | ((try simp only [SX.inK]); (try simp [SX.den, SX.IsU8, SX.AllP, *]); (try omega))), ?_⟩
  intro a29 w29 hr29' _
  have hr29 := h28.unbase hr29'
  have hB29 := (hB27.below hb28).keep hr29'.keeps (by simp [frameAt, mutB])
  have hW29 := (hW27.below hb28).keep hr29'.keeps (by simp [frameAt, mutB])
  have hK29 := hK28.keep hr29'.keeps (by simp [frameAt, mutB])
  have hS1 := Same_ok w29 vb (.slice ad L.length cp) B L hB29.rd (hL.below hr29.keeps.toBelow) (by omega) (by omega)
  rw [same1] at hS1
  refine post_call 18 [.v vb, .v (.slice ad L.length cp)] hr29 (by first | exact wanted_none rfl | exact wanted_zero (hr29.env.same rfl rfl rfl rfl) rfl (by simp)) rfl (callable 18 Try.func18) (hS1) ?_
  rintro e30 w30 ⟨rfl, hb30⟩
  refine ⟨_, rfl, ?_⟩
  have h30 := hr29.ret hb30 112 (.v (.bool true)) rfl _ (hr29.all.below hb30) (by simp) rfl
  refine seg cfg7_ok mixed PanicFree.body 1000 [] [(105, true), (109, true), (114, true)] h30.rebase (by first | trivial | exact HpRep.nil | assumption) (by kernel_rfl) fun s_ hs_ => ?_
  simp (maxSteps := 10000000) [SX.vc, SX.stop, SX.contS, SX.contB, SX.contW, SX.contR, SX.contD, SX.sxStep, SX.stepPure, SX.stepNew, SX.stepStore, SX.stepKeep, SX.guardIx, SX.evOp, SX.opd, SX.opds, SX.optOpd, SX.look, SX.putS, SX.gobs, SX.AllP, SX.leave, SX.lookC, SX.lookB, SX.lookT, SX.lookN, SX.findK, SX.evBuiltin, SX.ints, SX.foldI, SX.evBin, SX.evInt, SX.evStr, SX.evEq, SX.arith, SX.evLoad, SX.shapeUp, SX.evFieldAddr, SX.evField, SX.evIndexAddr, SX.evIndex, SX.evFill, SX.evBuild, SX.szs, SX.cellsV, SX.evNew, SX.evStore, SX.spliceL, SX.SV.cells, SX.evConv, SX.evSlice, SX.bnd, SX.evNil, SX.evUn, SX.evPick, SX.pickOpd, SX.popTo, SX.cnd, SX.env0, SX.TD.isAgg, SX.TD.isIface, SX.tails, SX.NotAgg, SX.evLookup, SX.evConvH, SX.evPtrEq, SX.isCells, SX.thaw, SX.frz, SX.fixB, SX.rootIx, SX.Froz, SX.frzStep, SX.fork, Go.Value.cells, Go.undef, cfg7]
  refine ⟨by (unfold SX.Ob; first | trivial | omega | ((try simp only [SX.inK]); (try simp [SX.den, SX.IsU8, SX.AllP, *]); (try omega))), ?_⟩
  intro a31 w31 hr31' _
  have hr31 := h30.unbase hr31'
  have hW31 := (hW29.below hb30).keep hr31'.keeps (by simp [frameAt, mutB])
  have hK31 := (hK29.below hb30).keep hr31'.keeps (by simp [frameAt, mutB])
  have hJk := join_ok w31 vk J hK31.rd (by omega)
  rw [hJJ] at hJk
  refine post_call 21 [.v vk] hr31 (by first | exact wanted_none rfl | exact wanted_zero (hr31.env.same rfl rfl rfl rfl) rfl (by simp)) rfl (callable 21 Try.func21) (hJk) ?_
  rintro e32 w32 ⟨vj, rfl, hJ32, hb32⟩
  refine ⟨_, rfl, ?_⟩
  have h32 := hr31.ret hb32 116 (.v vj) rfl _ (hr31.all.below hb32) (by simp) rfl
  refine seg cfg7_ok mixed PanicFree.body 1000 [] [(105, true), (109, true), (114, true)] h32.rebase (by first | trivial | exact HpRep.nil | assumption) (by kernel_rfl) fun s_ hs_ => ?_
  simp (maxSteps := 10000000) [SX.vc, SX.stop, SX.contS, SX.contB, SX.contW, SX.contR, SX.contD, SX.sxStep, SX.stepPure, SX.stepNew, SX.stepStore, SX.stepKeep, SX.guardIx, SX.evOp, SX.opd, SX.opds, SX.optOpd, SX.look, SX.putS, SX.gobs, SX.AllP, SX.leave, SX.lookC, SX.lookB, SX.lookT, SX.lookN, SX.findK, SX.evBuiltin, SX.ints, SX.foldI, SX.evBin, SX.evInt, SX.evStr, SX.evEq, SX.arith, SX.evLoad, SX.shapeUp, SX.evFieldAddr, SX.evField, SX.evIndexAddr, SX.evIndex, SX.evFill, SX.evBuild, SX.szs, SX.cellsV, SX.evNew, SX.evStore, SX.spliceL, SX.SV.cells, SX.evConv, SX.evSlice, SX.bnd, SX.evNil, SX.evUn, SX.evPick, SX.pickOpd, SX.popTo, SX.cnd, SX.env0, SX.TD.isAgg, SX.TD.isIface, SX.tails, SX.NotAgg, SX.evLookup, SX.evConvH, SX.evPtrEq, SX.isCells, SX.thaw, SX.frz, SX.fixB, SX.rootIx, SX.Froz, SX.frzStep, SX.fork, Go.Value.cells, Go.undef, cfg7]
  refine ⟨by (unfold SX.Ob; first | trivial | omega | ((try simp only [SX.inK]); (try simp [SX.den, SX.IsU8, SX.AllP, *]); (try omega))), ?_⟩
  intro a33 w33 hr33' _
  have hr33 := h32.unbase hr33'
  have hW33 := (hW31.below hb32).keep hr33'.keeps (by simp [frameAt, mutB])
  have hK33 := (hK31.below hb32).keep hr33'.keeps (by simp [frameAt, mutB])
  have hJ33 := hJ32.keep hr33'.keeps (by simp [frameAt, mutB])
  have hE1 := equal16_ok w33 vj vk J J hJ33.rd hK33.rd (by omega)
  rw [show decide (J = J) = true by simp] at hE1
  refine post_call 16 [.v vj, .v vk] hr33 (by first | exact wanted_none rfl | exact wanted_zero (hr33.env.same rfl rfl rfl rfl) rfl (by simp)) rfl (callable 16 Try.func16) (hE1) ?_
  rintro e34 w34 ⟨rfl, hb34⟩
  refine ⟨_, rfl, ?_⟩
  have h34 := hr33.ret hb34 118 (.v (.bool true)) rfl _ (hr33.all.below hb34) (by simp) rfl
  refine seg cfg7_ok mixed PanicFree.body 1000 [] [(105, true), (109, true), (114, true), (120, true), (124, true)] h34.rebase (by first | trivial | exact HpRep.nil | assumption) (by kernel_rfl) fun s_ hs_ => ?_
  simp (maxSteps := 10000000) [SX.vc, SX.stop, SX.contS, SX.contB, SX.contW, SX.contR, SX.contD, SX.sxStep, SX.stepPure, SX.stepNew, SX.stepStore, SX.stepKeep, SX.guardIx, SX.evOp, SX.opd, SX.opds, SX.optOpd, SX.look, SX.putS, SX.gobs, SX.AllP, SX.leave, SX.lookC, SX.lookB, SX.lookT, SX.lookN, SX.findK, SX.evBuiltin, SX.ints, SX.foldI, SX.evBin, SX.evInt, SX.evStr, SX.evEq, SX.arith, SX.evLoad, SX.shapeUp, SX.evFieldAddr, SX.evField, SX.evIndexAddr, SX.evIndex, SX.evFill, SX.evBuild, SX.szs, SX.cellsV, SX.evNew, SX.evStore, SX.spliceL, SX.SV.cells, SX.evConv, SX.evSlice, SX.bnd, SX.evNil, SX.evUn, SX.evPick, SX.pickOpd, SX.popTo, SX.cnd, SX.env0, SX.TD.isAgg, SX.TD.isIface, SX.tails, SX.NotAgg, SX.evLookup, SX.evConvH, SX.evPtrEq, SX.isCells, SX.thaw, SX.frz, SX.fixB, SX.rootIx, SX.Froz, SX.frzStep, SX.fork, Go.Value.cells, Go.undef, cfg7]
  refine ⟨by (unfold SX.Ob; first | trivial | omega | ((try simp only [SX.inK]); (try simp [SX.den, SX.IsU8, SX.AllP, *]); (try omega))), ?_⟩
  intro a35 w35 hr35' _
  have hr35 := h34.unbase hr35'
  have hW35 := (hW33.below hb34).keep hr35'.keeps (by simp [frameAt, mutB])
  have hK35 := (hK33.below hb34).keep hr35'.keeps (by simp [frameAt, mutB])
  have hMw := many_ok w35 vw W hW35.rd (by omega)
  rw [many_sum hWc, wk2] at hMw
  refine post_call 15 [.v vw] hr35 (by first | exact wanted_none rfl | exact wanted_zero (hr35.env.same rfl rfl rfl rfl) rfl (by simp)) rfl (callable 15 Try.func15) (hMw) ?_
  rintro e36 w36 ⟨rfl, hb36⟩
  refine ⟨_, rfl, ?_⟩
  have h36 := hr35.ret hb36 126 (.v (.int .i64 n)) rfl _ (hr35.all.below hb36) (by simp) rfl
  refine seg cfg7_ok mixed PanicFree.body 1000 [] [(105, true), (109, true), (114, true), (120, true), (124, true), (130, true)] h36.rebase (by first | trivial | exact HpRep.nil | assumption) (by kernel_rfl) fun s_ hs_ => ?_
  simp (maxSteps := 10000000) [SX.vc, SX.stop, SX.contS, SX.contB, SX.contW, SX.contR, SX.contD, SX.sxStep, SX.stepPure, SX.stepNew, SX.stepStore, SX.stepKeep, SX.guardIx, SX.evOp, SX.opd, SX.opds, SX.optOpd, SX.look, SX.putS, SX.gobs, SX.AllP, SX.leave, SX.lookC, SX.lookB, SX.lookT, SX.lookN, SX.findK, SX.evBuiltin, SX.ints, SX.foldI, SX.evBin, SX.evInt, SX.evStr, SX.evEq, SX.arith, SX.evLoad, SX.shapeUp, SX.evFieldAddr, SX.evField, SX.evIndexAddr, SX.evIndex, SX.evFill, SX.evBuild, SX.szs, SX.cellsV, SX.evNew, SX.evStore, SX.spliceL, SX.SV.cells, SX.evConv, SX.evSlice, SX.bnd, SX.evNil, SX.evUn, SX.evPick, SX.pickOpd, SX.popTo, SX.cnd, SX.env0, SX.TD.isAgg, SX.TD.isIface, SX.tails, SX.NotAgg, SX.evLookup, SX.evConvH, SX.evPtrEq, SX.isCells, SX.thaw, SX.frz, SX.fixB, SX.rootIx, SX.Froz, SX.frzStep, SX.fork, Go.Value.cells, Go.undef, cfg7]
  refine ⟨by (unfold SX.Ob; first | trivial | omega | ((try simp only [SX.inK]); (try simp [SX.den, SX.IsU8, SX.AllP, *]); (try omega))), ?_⟩
  intro a37 w37 hr37' _
  have hr37 := h36.unbase hr37'
  have hK37 := (hK35.below hb36).keep hr37'.keeps (by simp [frameAt, mutB])
  have hS2 := Same_ok w37 (.slice ad L.length cp) vk L J (hL.below hr37.keeps.toBelow) hK37.rd (by omega) (by omega)
  rw [same2] at hS2
  refine post_call 18 [.v (.slice ad L.length cp), .v vk] hr37 (by first | exact wanted_none rfl | exact wanted_zero (hr37.env.same rfl rfl rfl rfl) rfl (by simp)) rfl (callable 18 Try.func18) (hS2) ?_
  rintro e38 w38 ⟨rfl, hb38⟩
  refine ⟨_, rfl, ?_⟩
  have h38 := hr37.ret hb38 133 (.v (.bool true)) rfl _ (hr37.all.below hb38) (by simp) rfl
  refine seg cfg7_ok mixed PanicFree.body 1000 [] [(105, true), (109, true), (114, true), (120, true), (124, true), (130, true)] h38 (by first | trivial | exact HpRep.nil | assumption) (by kernel_rfl) fun s_ hs_ => ?_
  simp (maxSteps := 10000000) [SX.vc, SX.stop, SX.contS, SX.contB, SX.contW, SX.contR, SX.contD, SX.sxStep, SX.stepPure, SX.stepNew, SX.stepStore, SX.stepKeep, SX.guardIx, SX.evOp, SX.opd, SX.opds, SX.optOpd, SX.look, SX.putS, SX.gobs, SX.AllP, SX.leave, SX.lookC, SX.lookB, SX.lookT, SX.lookN, SX.findK, SX.evBuiltin, SX.ints, SX.foldI, SX.evBin, SX.evInt, SX.evStr, SX.evEq, SX.arith, SX.evLoad, SX.shapeUp, SX.evFieldAddr, SX.evField, SX.evIndexAddr, SX.evIndex, SX.evFill, SX.evBuild, SX.szs, SX.cellsV, SX.evNew, SX.evStore, SX.spliceL, SX.SV.cells, SX.evConv, SX.evSlice, SX.bnd, SX.evNil, SX.evUn, SX.evPick, SX.pickOpd, SX.popTo, SX.cnd, SX.env0, SX.TD.isAgg, SX.TD.isIface, SX.tails, SX.NotAgg, SX.evLookup, SX.evConvH, SX.evPtrEq, SX.isCells, SX.thaw, SX.frz, SX.fixB, SX.rootIx, SX.Froz, SX.frzStep, SX.fork, Go.Value.cells, Go.undef, cfg7]
  refine ⟨by (unfold SX.Ob; first | trivial | omega | ((try simp only [SX.inK]); (try simp [SX.den, SX.IsU8, SX.AllP, *]); (try omega))), ?_⟩
  intro a39 w39 hr39 _
  exact post_retn (end1 hr39 rfl rfl ⟨rfl, hr39.keeps.toBelow⟩).1
end Go.Proofs
