/- Spans: the chapter's example. -/
import Derived.Test.YtpgknabmpghcoaaPQ
import Derived.Test.YtpgknabmpghcoaaPJ
namespace Go.Proofs
set_option linter.unusedVariables false
set_option linter.unusedSimpArgs false
open Go Go.SX Go.RowKit

def NewG (w : World) (n : Int) (e : Ending) (w' : World) : Prop := ∃ v', e = .returned (den (.tu [.v v', .v (.int .i64 0)])) ∧ RdP (fun x => w.heap.size ≤ x) w' v' [⟨0, n, -1, 0⟩] ∧ Below w.heap.size w w'

theorem New_good (w : World) (n : Int) (h1 : 1 ≤ n) (h2 : n ≤ 1099511627776) : Calls Try.prog 9 (denL [.v (.int .i64 n)]).toArray w (NewG w n) :=
  (New_ok w n).mono fun e w' h => by
    rcases h with ⟨⟨_, _, v', he, hv⟩ | ⟨hn, _⟩, hb⟩
    · exact ⟨v', he, hv, hb⟩
    · omega

theorem lv1 : giveE [⟨0, 10, -1, 0⟩] 2 5 1 3 = 0 ∧ giveL [⟨0, 10, -1, 0⟩] 2 5 1 3 = [⟨0, 2, -1, 0⟩, ⟨2, 5, 1, 3⟩, ⟨5, 10, -1, 0⟩] := by decide
theorem lv2 : giveE [⟨0, 2, -1, 0⟩, ⟨2, 5, 1, 3⟩, ⟨5, 10, -1, 0⟩] 4 6 2 3 = 61 := by decide
theorem lv3 : giveE [⟨0, 2, -1, 0⟩, ⟨2, 5, 1, 3⟩, ⟨5, 10, -1, 0⟩] 4 6 2 4 = 0 ∧ giveL [⟨0, 2, -1, 0⟩, ⟨2, 5, 1, 3⟩, ⟨5, 10, -1, 0⟩] 4 6 2 4 = [⟨0, 2, -1, 0⟩, ⟨2, 4, 1, 3⟩, ⟨4, 6, 2, 4⟩, ⟨6, 10, -1, 0⟩] := by decide

def lvM : List Spn := [⟨0, 2, -1, 0⟩, ⟨2, 4, 1, 3⟩, ⟨4, 6, 2, 4⟩, ⟨6, 10, -1, 0⟩]
def FindG (w : World) (e : Ending) (w' : World) : Prop := e = .returned (den (.tu [.ag (spnC ⟨2, 4, 1, 3⟩), .v (.int .i64 0)])) ∧ Below w.heap.size w w'

theorem Find_live {P : Nat → Prop} (w : World) (v : Value) (hL : RdP P w v lvM) : Calls Try.prog 23 (denL [.v v, .v (.int .i64 3)]).toArray w (FindG w) :=
  (Find_ok w v lvM 3 hL (by simp [lvM])).mono fun e w' h => by
    rcases h with ⟨⟨_, k, hk, hin, he⟩ | ⟨h, _⟩, hb⟩
    · refine ⟨?_, hb⟩
      have : k = 0 ∨ k = 1 ∨ k = 2 ∨ k = 3 := by simp [lvM] at hk; omega
      rcases this with rfl | rfl | rfl | rfl
      · exact absurd hin (by decide)
      · exact he
      · exact absurd hin (by decide)
      · exact absurd hin (by decide)
    · rcases h with h | h
      · exact absurd (by decide) h
      · exact absurd (by decide) (h 1 (by decide))

set_option maxRecDepth 100000 in
set_option maxHeartbeats 16000000 in
/-- live. -/
theorem live_ok (w : World) : Calls Try.prog 8 #[] w (Ret w (.v (.bool true))) := by
  refine enter (F := frame0 w) Try.func8 rfl [] [] (by simp [Try.f8]) trivial (keeps0 w) fun a hr => ?_
  refine seg cfg8_ok mixed PanicFree.body 1000 [] [] hr (by first | trivial | exact HpRep.nil | assumption) (by kernel_rfl) fun s_ hs_ => ?_
  simp (maxSteps := 10000000) [SX.vc, SX.stop, SX.contS, SX.contB, SX.contW, SX.contR, SX.contD, SX.sxStep, SX.stepPure, SX.stepNew, SX.stepStore, SX.stepKeep, SX.guardIx, SX.evOp, SX.opd, SX.opds, SX.optOpd, SX.look, SX.putS, SX.gobs, SX.AllP, SX.leave, SX.lookC, SX.lookB, SX.lookT, SX.lookN, SX.findK, SX.evBuiltin, SX.ints, SX.foldI, SX.evBin, SX.evInt, SX.evStr, SX.evEq, SX.arith, SX.evLoad, SX.shapeUp, SX.evFieldAddr, SX.evField, SX.evIndexAddr, SX.evIndex, SX.evFill, SX.evBuild, SX.szs, SX.cellsV, SX.evNew, SX.evStore, SX.spliceL, SX.SV.cells, SX.evConv, SX.evSlice, SX.bnd, SX.evNil, SX.evUn, SX.evPick, SX.pickOpd, SX.popTo, SX.cnd, SX.env0, SX.TD.isAgg, SX.TD.isIface, SX.tails, SX.NotAgg, SX.evLookup, SX.evConvH, SX.evPtrEq, SX.isCells, SX.thaw, SX.frz, SX.fixB, SX.rootIx, SX.Froz, SX.frzStep, SX.fork, Go.Value.cells, Go.undef, cfg8, Try.f8]
  refine ⟨by (unfold SX.Ob; first | trivial | omega | ((try simp only [SX.inK]); (try simp [SX.den, SX.IsU8, SX.AllP, *]); (try omega))), ?_⟩
  intro a1 w1 hr1 _
  refine post_call 9 [.v (.int .i64 10)] hr1 (by first | exact wanted_none rfl | exact wanted_zero (hr1.env.same rfl rfl rfl rfl) rfl (by simp)) rfl (callable 9 Try.func9) (New_good w1 10 (by decide) (by decide)) ?_
  rintro e2 w2 ⟨v2, rfl, hL2, hb2⟩
  refine ⟨_, rfl, ?_⟩
  have h2 := hr1.ret hb2 11 (.tu [.v v2, .v (.int .i64 0)]) rfl _ (hr1.all.below hb2) (by simp) rfl
  refine seg cfg8_ok mixed PanicFree.body 1000 [] [] h2.rebase (by first | trivial | exact HpRep.nil | assumption) (by kernel_rfl) fun s_ hs_ => ?_
  simp (maxSteps := 10000000) [SX.vc, SX.stop, SX.contS, SX.contB, SX.contW, SX.contR, SX.contD, SX.sxStep, SX.stepPure, SX.stepNew, SX.stepStore, SX.stepKeep, SX.guardIx, SX.evOp, SX.opd, SX.opds, SX.optOpd, SX.look, SX.putS, SX.gobs, SX.AllP, SX.leave, SX.lookC, SX.lookB, SX.lookT, SX.lookN, SX.findK, SX.evBuiltin, SX.ints, SX.foldI, SX.evBin, SX.evInt, SX.evStr, SX.evEq, SX.arith, SX.evLoad, SX.shapeUp, SX.evFieldAddr, SX.evField, SX.evIndexAddr, SX.evIndex, SX.evFill, SX.evBuild, SX.szs, SX.cellsV, SX.evNew, SX.evStore, SX.spliceL, SX.SV.cells, SX.evConv, SX.evSlice, SX.bnd, SX.evNil, SX.evUn, SX.evPick, SX.pickOpd, SX.popTo, SX.cnd, SX.env0, SX.TD.isAgg, SX.TD.isIface, SX.tails, SX.NotAgg, SX.evLookup, SX.evConvH, SX.evPtrEq, SX.isCells, SX.thaw, SX.frz, SX.fixB, SX.rootIx, SX.Froz, SX.frzStep, SX.fork, Go.Value.cells, Go.undef, cfg8]
  refine ⟨by (unfold SX.Ob; first | trivial | omega | ((try simp only [SX.inK]); (try simp [SX.den, SX.IsU8, SX.AllP, *]); (try omega))), ?_⟩
  intro a3 w3 hr3' _
  have hr3 := h2.unbase hr3'
  have hL3 := hL2.keep hr3'.keeps (by simp [frameAt, mutB])
  refine post_call 10 [.v v2, .v (.int .i64 2), .v (.int .i64 5), .v (.int .i64 1), .v (.int .i64 3)] hr3 (by first | exact wanted_none rfl | exact wanted_zero (hr3.env.same rfl rfl rfl rfl) rfl (by simp)) rfl (callable 10 Try.func10) (Give_ok w3 v2 _ 2 5 1 3 hL3 (by simp)) ?_
  rintro e4 w4 ⟨v4, rfl, hO4, hb4⟩
  refine ⟨_, rfl, ?_⟩
  have h4 := hr3.ret hb4 16 (.tu [.v v4, .v (.int .i64 (giveE [⟨0, 10, -1, 0⟩] 2 5 1 3))]) rfl _ (hr3.all.below hb4) (by simp) rfl
  rw [lv1.1] at h4
  rw [lv1.2] at hO4
  obtain ⟨ad4, cp4, rfl⟩ := hO4.slice
  refine seg cfg8_ok mixed PanicFree.body 1000 [] [] h4.rebase (by first | trivial | exact HpRep.nil | assumption) (by kernel_rfl) fun s_ hs_ => ?_
  simp (maxSteps := 10000000) [SX.vc, SX.stop, SX.contS, SX.contB, SX.contW, SX.contR, SX.contD, SX.sxStep, SX.stepPure, SX.stepNew, SX.stepStore, SX.stepKeep, SX.guardIx, SX.evOp, SX.opd, SX.opds, SX.optOpd, SX.look, SX.putS, SX.gobs, SX.AllP, SX.leave, SX.lookC, SX.lookB, SX.lookT, SX.lookN, SX.findK, SX.evBuiltin, SX.ints, SX.foldI, SX.evBin, SX.evInt, SX.evStr, SX.evEq, SX.arith, SX.evLoad, SX.shapeUp, SX.evFieldAddr, SX.evField, SX.evIndexAddr, SX.evIndex, SX.evFill, SX.evBuild, SX.szs, SX.cellsV, SX.evNew, SX.evStore, SX.spliceL, SX.SV.cells, SX.evConv, SX.evSlice, SX.bnd, SX.evNil, SX.evUn, SX.evPick, SX.pickOpd, SX.popTo, SX.cnd, SX.env0, SX.TD.isAgg, SX.TD.isIface, SX.tails, SX.NotAgg, SX.evLookup, SX.evConvH, SX.evPtrEq, SX.isCells, SX.thaw, SX.frz, SX.fixB, SX.rootIx, SX.Froz, SX.frzStep, SX.fork, Go.Value.cells, Go.undef, cfg8]
  refine ⟨by (unfold SX.Ob; first | trivial | omega | ((try simp only [SX.inK]); (try simp [SX.den, SX.IsU8, SX.AllP, *]); (try omega))), ?_⟩
  intro a5 w5 hr5' _
  have hr5 := h4.unbase hr5'
  have hL5 := hO4.rd.keep hr5'.keeps (by simp [frameAt, mutB])
  refine post_call 10 [.v (.slice ad4 3 cp4), .v (.int .i64 4), .v (.int .i64 6), .v (.int .i64 2), .v (.int .i64 3)] hr5 (by first | exact wanted_none rfl | exact wanted_zero (hr5.env.same rfl rfl rfl rfl) rfl (by simp)) rfl (callable 10 Try.func10) (Give_ok w5 _ _ 4 6 2 3 hL5 (by simp)) ?_
  rintro e6 w6 ⟨v6, rfl, hO6, hb6⟩
  refine ⟨_, rfl, ?_⟩
  have h6 := hr5.ret hb6 21 (.tu [.v v6, .v (.int .i64 (giveE [⟨0, 2, -1, 0⟩, ⟨2, 5, 1, 3⟩, ⟨5, 10, -1, 0⟩] 4 6 2 3))]) rfl _ (hr5.all.below hb6) (by simp) rfl
  rw [lv2] at h6
  have hL6 := hL5.below hb6
  refine seg cfg8_ok mixed PanicFree.body 1000 [] [] h6.rebase (by first | trivial | exact HpRep.nil | assumption) (by kernel_rfl) fun s_ hs_ => ?_
  simp (maxSteps := 10000000) [SX.vc, SX.stop, SX.contS, SX.contB, SX.contW, SX.contR, SX.contD, SX.sxStep, SX.stepPure, SX.stepNew, SX.stepStore, SX.stepKeep, SX.guardIx, SX.evOp, SX.opd, SX.opds, SX.optOpd, SX.look, SX.putS, SX.gobs, SX.AllP, SX.leave, SX.lookC, SX.lookB, SX.lookT, SX.lookN, SX.findK, SX.evBuiltin, SX.ints, SX.foldI, SX.evBin, SX.evInt, SX.evStr, SX.evEq, SX.arith, SX.evLoad, SX.shapeUp, SX.evFieldAddr, SX.evField, SX.evIndexAddr, SX.evIndex, SX.evFill, SX.evBuild, SX.szs, SX.cellsV, SX.evNew, SX.evStore, SX.spliceL, SX.SV.cells, SX.evConv, SX.evSlice, SX.bnd, SX.evNil, SX.evUn, SX.evPick, SX.pickOpd, SX.popTo, SX.cnd, SX.env0, SX.TD.isAgg, SX.TD.isIface, SX.tails, SX.NotAgg, SX.evLookup, SX.evConvH, SX.evPtrEq, SX.isCells, SX.thaw, SX.frz, SX.fixB, SX.rootIx, SX.Froz, SX.frzStep, SX.fork, Go.Value.cells, Go.undef, cfg8]
  refine ⟨by (unfold SX.Ob; first | trivial | omega | ((try simp only [SX.inK]); (try simp [SX.den, SX.IsU8, SX.AllP, *]); (try omega))), ?_⟩
  intro a7 w7 hr7' _
  have hr7 := h6.unbase hr7'
  have hL7 := hL6.keep hr7'.keeps (by simp [frameAt, mutB])
  refine post_call 10 [.v (.slice ad4 3 cp4), .v (.int .i64 4), .v (.int .i64 6), .v (.int .i64 2), .v (.int .i64 4)] hr7 (by first | exact wanted_none rfl | exact wanted_zero (hr7.env.same rfl rfl rfl rfl) rfl (by simp)) rfl (callable 10 Try.func10) (Give_ok w7 _ _ 4 6 2 4 hL7 (by simp)) ?_
  rintro e8 w8 ⟨v8, rfl, hO8, hb8⟩
  refine ⟨_, rfl, ?_⟩
  have h8 := hr7.ret hb8 26 (.tu [.v v8, .v (.int .i64 (giveE [⟨0, 2, -1, 0⟩, ⟨2, 5, 1, 3⟩, ⟨5, 10, -1, 0⟩] 4 6 2 4))]) rfl _ (hr7.all.below hb8) (by simp) rfl
  rw [lv3.1] at h8
  rw [lv3.2] at hO8
  refine seg cfg8_ok mixed PanicFree.body 1000 [] [] h8.rebase (by first | trivial | exact HpRep.nil | assumption) (by kernel_rfl) fun s_ hs_ => ?_
  simp (maxSteps := 10000000) [SX.vc, SX.stop, SX.contS, SX.contB, SX.contW, SX.contR, SX.contD, SX.sxStep, SX.stepPure, SX.stepNew, SX.stepStore, SX.stepKeep, SX.guardIx, SX.evOp, SX.opd, SX.opds, SX.optOpd, SX.look, SX.putS, SX.gobs, SX.AllP, SX.leave, SX.lookC, SX.lookB, SX.lookT, SX.lookN, SX.findK, SX.evBuiltin, SX.ints, SX.foldI, SX.evBin, SX.evInt, SX.evStr, SX.evEq, SX.arith, SX.evLoad, SX.shapeUp, SX.evFieldAddr, SX.evField, SX.evIndexAddr, SX.evIndex, SX.evFill, SX.evBuild, SX.szs, SX.cellsV, SX.evNew, SX.evStore, SX.spliceL, SX.SV.cells, SX.evConv, SX.evSlice, SX.bnd, SX.evNil, SX.evUn, SX.evPick, SX.pickOpd, SX.popTo, SX.cnd, SX.env0, SX.TD.isAgg, SX.TD.isIface, SX.tails, SX.NotAgg, SX.evLookup, SX.evConvH, SX.evPtrEq, SX.isCells, SX.thaw, SX.frz, SX.fixB, SX.rootIx, SX.Froz, SX.frzStep, SX.fork, Go.Value.cells, Go.undef, cfg8]
  refine ⟨by (unfold SX.Ob; first | trivial | omega | ((try simp only [SX.inK]); (try simp [SX.den, SX.IsU8, SX.AllP, *]); (try omega))), ?_⟩
  intro a9 w9 hr9' _
  have hr9 := h8.unbase hr9'
  have hL9 := hO8.rd.keep hr9'.keeps (by simp [frameAt, mutB])
  refine post_call 23 [.v v8, .v (.int .i64 3)] hr9 (by first | exact wanted_none rfl | exact wanted_zero (hr9.env.same rfl rfl rfl rfl) rfl (by simp)) rfl (callable 23 Try.func23) (Find_live w9 v8 hL9) ?_
  rintro e10 w10 ⟨rfl, hb10⟩
  refine ⟨_, rfl, ?_⟩
  have h10 := hr9.ret hb10 31 (.tu [.ag (spnC ⟨2, 4, 1, 3⟩), .v (.int .i64 0)]) rfl _ (hr9.all.below hb10) (by simp) rfl
  refine seg cfg8_ok mixed PanicFree.body 1000 [] [(36, true), (40, true), (45, true), (49, true), (53, true), (58, true)] h10 (by first | trivial | exact HpRep.nil | assumption) (by kernel_rfl) fun s_ hs_ => ?_
  simp (maxSteps := 10000000) [SX.vc, SX.stop, SX.contS, SX.contB, SX.contW, SX.contR, SX.contD, SX.sxStep, SX.stepPure, SX.stepNew, SX.stepStore, SX.stepKeep, SX.guardIx, SX.evOp, SX.opd, SX.opds, SX.optOpd, SX.look, SX.putS, SX.gobs, SX.AllP, SX.leave, SX.lookC, SX.lookB, SX.lookT, SX.lookN, SX.findK, SX.evBuiltin, SX.ints, SX.foldI, SX.evBin, SX.evInt, SX.evStr, SX.evEq, SX.arith, SX.evLoad, SX.shapeUp, SX.evFieldAddr, SX.evField, SX.evIndexAddr, SX.evIndex, SX.evFill, SX.evBuild, SX.szs, SX.cellsV, SX.evNew, SX.evStore, SX.spliceL, SX.SV.cells, SX.evConv, SX.evSlice, SX.bnd, SX.evNil, SX.evUn, SX.evPick, SX.pickOpd, SX.popTo, SX.cnd, SX.env0, SX.TD.isAgg, SX.TD.isIface, SX.tails, SX.NotAgg, SX.evLookup, SX.evConvH, SX.evPtrEq, SX.isCells, SX.thaw, SX.frz, SX.fixB, SX.rootIx, SX.Froz, SX.frzStep, SX.fork, Go.Value.cells, Go.undef, cfg8, spnC]
  refine ⟨by (unfold SX.Ob; first | trivial | omega | ((try simp only [SX.inK]); (try simp [SX.den, SX.IsU8, SX.AllP, *]); (try omega))), ?_⟩
  intro a11 w11 hr11 _
  refine post_eqP (C := cfg8) cfg8_ok (ok := fun t => t == 35) ok35 hr11 rfl rfl rfl (by kernel_rfl) (b := true) (eqSpn ⟨2, 4, 1, 3⟩ ⟨2, 4, 1, 3⟩) (by first | exact wanted_none rfl | exact wanted_zero (hr11.env.same rfl rfl rfl rfl) rfl (by simp)) rfl (by simp) rfl fun a_ hr12 => ?_
  simp only [SX.eqR] at hr12
  refine seg cfg8_ok mixed PanicFree.body 1000 [] [(36, true), (40, true), (45, true), (49, true), (53, true), (58, true)] hr12 (by first | trivial | exact HpRep.nil | assumption) (by kernel_rfl) fun s_ hs_ => ?_
  simp (maxSteps := 10000000) [SX.vc, SX.stop, SX.contS, SX.contB, SX.contW, SX.contR, SX.contD, SX.sxStep, SX.stepPure, SX.stepNew, SX.stepStore, SX.stepKeep, SX.guardIx, SX.evOp, SX.opd, SX.opds, SX.optOpd, SX.look, SX.putS, SX.gobs, SX.AllP, SX.leave, SX.lookC, SX.lookB, SX.lookT, SX.lookN, SX.findK, SX.evBuiltin, SX.ints, SX.foldI, SX.evBin, SX.evInt, SX.evStr, SX.evEq, SX.arith, SX.evLoad, SX.shapeUp, SX.evFieldAddr, SX.evField, SX.evIndexAddr, SX.evIndex, SX.evFill, SX.evBuild, SX.szs, SX.cellsV, SX.evNew, SX.evStore, SX.spliceL, SX.SV.cells, SX.evConv, SX.evSlice, SX.bnd, SX.evNil, SX.evUn, SX.evPick, SX.pickOpd, SX.popTo, SX.cnd, SX.env0, SX.TD.isAgg, SX.TD.isIface, SX.tails, SX.NotAgg, SX.evLookup, SX.evConvH, SX.evPtrEq, SX.isCells, SX.thaw, SX.frz, SX.fixB, SX.rootIx, SX.Froz, SX.frzStep, SX.fork, Go.Value.cells, Go.undef, cfg8, spnC]
  refine ⟨by (unfold SX.Ob; first | trivial | omega | ((try simp only [SX.inK]); (try simp [SX.den, SX.IsU8, SX.AllP, *]); (try omega))), ?_⟩
  intro a13 w13 hr13 _
  exact post_retn (end1 hr13 rfl rfl ⟨rfl, hr13.keeps.toBelow⟩).1
end Go.Proofs
