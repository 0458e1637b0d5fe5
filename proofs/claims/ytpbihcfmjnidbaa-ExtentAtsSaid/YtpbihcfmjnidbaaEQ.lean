/- ExtentAts: a block's extent is that of the part of it alone; cut away, it has none. -/
import Derived.Test.YtpbihcfmjnidbaaEP
namespace Go.Proofs
set_option linter.unusedVariables false
set_option linter.unusedSimpArgs false
open Go Go.SX Go.RowKit

theorem part_one {L : List Ext} {lba : Int} {i k : Nat} (hC : Chk L) (h : PartIK L lba 1 i k) : (i = k ∧ atE L lba = none) ∨ (k = i + 1 ∧ Blocks lba 1 → atE L lba = some (clipE lba 1 (nth ext0 L i))) ∧ i < k := by
  rcases at_part hC h with ⟨h1, h2⟩ | ⟨h1, h2⟩
  · refine .inl ⟨h1, ?_⟩
    unfold atE
    rw [h2]
    split <;> rfl
  · refine .inr ⟨fun ⟨_, hB⟩ => ?_, h1⟩
    unfold atE
    rw [if_pos ⟨hC, hB⟩, h2]
    rfl

theorem part_one_len {L : List Ext} {lba : Int} {i k : Nat} (hC : Chk L) (h : PartIK L lba 1 i k) : k ≤ i + 1 := by
  obtain ⟨⟨hi, h1, h2⟩, hik, hk, h3, h4⟩ := h
  rcases Nat.lt_or_ge (i + 1) k with hlt | hge
  · have g1 := hC.lt (show i < i + 1 by omega) (show i + 1 < L.length by omega)
    have g2 := h2 i (by omega) (by omega)
    have g3 := h3 (i + 1) (by omega) (by omega)
    omega
  · exact hge

def cfg6n : Cfg := { cfg6 with dt := [] }
theorem cfg6n_ok : TTok Try.prog cfg6n.tt := cfg6_ok

def AtsJ (w : World) (v : Value) (lba n other : Int) (a : Act) (w' : World) : Prop :=
  RepX (frame0 w) ⟨[(9, 0, .v (.bool true)), (0, 0, .v v), (1, 0, .v (.int .i64 lba)), (2, 0, .v (.int .i64 n)), (3, 0, .v (.int .i64 other))], [], 0, 0, 133, [], [], []⟩ a w'

set_option maxRecDepth 100000 in
set_option maxHeartbeats 16000000 in
theorem ats_ok {P : Nat → Prop} (w : World) (v : Value) (L : List Ext) (lba n other : Int) (hL : RdE P w v L) (hlen : L.length ≤ 1000000000000000) (hi3 : inK other) : Calls Try.prog 6 (denL [.v v, .v (.int .i64 lba), .v (.int .i64 n), .v (.int .i64 other)]).toArray w (Ret w (.v (.bool true))) := by
  obtain ⟨ad, cp, rfl⟩ := hL.slice
  refine enter (F := frame0 w) Try.func6 rfl [.v (.slice ad L.length cp), .v (.int .i64 lba), .v (.int .i64 n), .v (.int .i64 other)] [] (by simp [Try.f6]) trivial (keeps0 w) fun a hr => ?_
  refine seg cfg6_ok mixed PanicFree.body 1000 [] [] hr (by first | trivial | exact HpRep.nil | assumption) (by kernel_rfl) fun s_ hs_ => ?_
  simp (maxSteps := 10000000) [SX.vc, SX.stop, SX.contS, SX.contB, SX.contW, SX.contR, SX.contD, SX.sxStep, SX.stepPure, SX.stepNew, SX.stepStore, SX.stepKeep, SX.guardIx, SX.evOp, SX.opd, SX.opds, SX.optOpd, SX.look, SX.putS, SX.gobs, SX.AllP, SX.leave, SX.lookC, SX.lookB, SX.lookT, SX.lookN, SX.findK, SX.evBuiltin, SX.ints, SX.foldI, SX.evBin, SX.evInt, SX.evStr, SX.evEq, SX.arith, SX.evLoad, SX.shapeUp, SX.evFieldAddr, SX.evField, SX.evIndexAddr, SX.evIndex, SX.evFill, SX.evBuild, SX.szs, SX.cellsV, SX.evNew, SX.evStore, SX.spliceL, SX.SV.cells, SX.evConv, SX.evSlice, SX.bnd, SX.evNil, SX.evUn, SX.evPick, SX.pickOpd, SX.popTo, SX.cnd, SX.env0, SX.TD.isAgg, SX.TD.isIface, SX.tails, SX.NotAgg, SX.evLookup, SX.evConvH, SX.evPtrEq, SX.isCells, SX.thaw, SX.frz, SX.fixB, SX.rootIx, SX.Froz, SX.frzStep, SX.fork, Go.Value.cells, Go.undef, cfg6, Try.f6]
  refine ⟨by (unfold SX.Ob; first | trivial | omega | ((try simp only [SX.inK]); (try simp [SX.den, SX.IsU8, SX.AllP, *]); (try omega))), ?_⟩
  intro a1 w1 hr1 _
  refine post_call 8 [] hr1 (by first | exact wanted_none rfl | exact wanted_zero (hr1.env.same rfl rfl rfl rfl) rfl (by simp)) rfl (callable 8 Try.func8) (live_ok w1) ?_
  rintro e2 w2 ⟨rfl, hb2⟩
  refine ⟨_, rfl, ?_⟩
  have h2 := hr1.ret hb2 20 (.v (.bool true)) rfl _ (hr1.all.below hb2) (by simp) rfl
  refine seg cfg6_ok mixed PanicFree.body 1000 [] [] h2 (by first | trivial | exact HpRep.nil | assumption) (by kernel_rfl) fun sF hsF => ?_
  simp (maxSteps := 10000000) [SX.vc, SX.stop, SX.contS, SX.contB, SX.contW, SX.contR, SX.contD, SX.sxStep, SX.stepPure, SX.stepNew, SX.stepStore, SX.stepKeep, SX.guardIx, SX.evOp, SX.opd, SX.opds, SX.optOpd, SX.look, SX.putS, SX.gobs, SX.AllP, SX.leave, SX.lookC, SX.lookB, SX.lookT, SX.lookN, SX.findK, SX.evBuiltin, SX.ints, SX.foldI, SX.evBin, SX.evInt, SX.evStr, SX.evEq, SX.arith, SX.evLoad, SX.shapeUp, SX.evFieldAddr, SX.evField, SX.evIndexAddr, SX.evIndex, SX.evFill, SX.evBuild, SX.szs, SX.cellsV, SX.evNew, SX.evStore, SX.spliceL, SX.SV.cells, SX.evConv, SX.evSlice, SX.bnd, SX.evNil, SX.evUn, SX.evPick, SX.pickOpd, SX.popTo, SX.cnd, SX.env0, SX.TD.isAgg, SX.TD.isIface, SX.tails, SX.NotAgg, SX.evLookup, SX.evConvH, SX.evPtrEq, SX.isCells, SX.thaw, SX.frz, SX.fixB, SX.rootIx, SX.Froz, SX.frzStep, SX.fork, Go.Value.cells, Go.undef, cfg6]
  refine ⟨by (unfold SX.Ob; first | trivial | omega | ((try simp only [SX.inK]); (try simp [SX.den, SX.IsU8, SX.AllP, *]); (try omega))), ?_⟩
  intro a3 w3 hr3 _
  have hF3 : Calls Try.prog 9 (denL [.sl 0 sF 0 0 1 1 1]).toArray w3 (FewPost w3 1 [L]) := few_one hr3.all.1.1 rfl ⟨ad, cp, rfl⟩
  refine post_call 9 [.sl 0 sF 0 0 1 1 1] hr3 (by first | exact wanted_none rfl | exact wanted_zero (hr3.env.same rfl rfl rfl rfl) rfl (by simp)) rfl (callable 9 Try.func9) (hF3) ?_
  rintro e4 w4 ⟨r4, rfl, hr4, hb4⟩
  refine ⟨_, rfl, ?_⟩
  have h4 := hr3.ret hb4 23 (.v (.bool r4)) rfl _ (hr3.all.below hb4) (by simp) rfl
  rw [allFew_one] at hr4
  rcases r4 with _ | _
  · refine seg cfg6_ok mixed PanicFree.body 1000 [true] [(25, true), (30, true), (34, true)] h4 (by first | trivial | exact HpRep.nil | assumption) (by kernel_rfl) fun s_ hs_ => ?_
    simp (maxSteps := 10000000) [SX.vc, SX.stop, SX.contS, SX.contB, SX.contW, SX.contR, SX.contD, SX.sxStep, SX.stepPure, SX.stepNew, SX.stepStore, SX.stepKeep, SX.guardIx, SX.evOp, SX.opd, SX.opds, SX.optOpd, SX.look, SX.putS, SX.gobs, SX.AllP, SX.leave, SX.lookC, SX.lookB, SX.lookT, SX.lookN, SX.findK, SX.evBuiltin, SX.ints, SX.foldI, SX.evBin, SX.evInt, SX.evStr, SX.evEq, SX.arith, SX.evLoad, SX.shapeUp, SX.evFieldAddr, SX.evField, SX.evIndexAddr, SX.evIndex, SX.evFill, SX.evBuild, SX.szs, SX.cellsV, SX.evNew, SX.evStore, SX.spliceL, SX.SV.cells, SX.evConv, SX.evSlice, SX.bnd, SX.evNil, SX.evUn, SX.evPick, SX.pickOpd, SX.popTo, SX.cnd, SX.env0, SX.TD.isAgg, SX.TD.isIface, SX.tails, SX.NotAgg, SX.evLookup, SX.evConvH, SX.evPtrEq, SX.isCells, SX.thaw, SX.frz, SX.fixB, SX.rootIx, SX.Froz, SX.frzStep, SX.fork, Go.Value.cells, Go.undef, cfg6]
    refine ⟨by (unfold SX.Ob; first | trivial | omega | ((try simp only [SX.inK]); (try simp [SX.den, SX.IsU8, SX.AllP, *]); (try omega))), ?_⟩
    intro a5 w5 hr5 _
    exact post_retn (end1 hr5 rfl rfl ⟨rfl, hr5.keeps.toBelow⟩).1
  have hn : L.length ≤ 300 := hr4.1 rfl
  refine seg cfg6_ok mixed PanicFree.body 1000 [] [(25, false), (30, true), (34, true)] h4 (by first | trivial | exact HpRep.nil | assumption) (by kernel_rfl) fun s_ hs_ => ?_
  simp (maxSteps := 10000000) [SX.vc, SX.stop, SX.contS, SX.contB, SX.contW, SX.contR, SX.contD, SX.sxStep, SX.stepPure, SX.stepNew, SX.stepStore, SX.stepKeep, SX.guardIx, SX.evOp, SX.opd, SX.opds, SX.optOpd, SX.look, SX.putS, SX.gobs, SX.AllP, SX.leave, SX.lookC, SX.lookB, SX.lookT, SX.lookN, SX.findK, SX.evBuiltin, SX.ints, SX.foldI, SX.evBin, SX.evInt, SX.evStr, SX.evEq, SX.arith, SX.evLoad, SX.shapeUp, SX.evFieldAddr, SX.evField, SX.evIndexAddr, SX.evIndex, SX.evFill, SX.evBuild, SX.szs, SX.cellsV, SX.evNew, SX.evStore, SX.spliceL, SX.SV.cells, SX.evConv, SX.evSlice, SX.bnd, SX.evNil, SX.evUn, SX.evPick, SX.pickOpd, SX.popTo, SX.cnd, SX.env0, SX.TD.isAgg, SX.TD.isIface, SX.tails, SX.NotAgg, SX.evLookup, SX.evConvH, SX.evPtrEq, SX.isCells, SX.thaw, SX.frz, SX.fixB, SX.rootIx, SX.Froz, SX.frzStep, SX.fork, Go.Value.cells, Go.undef, cfg6]
  refine ⟨by (unfold SX.Ob; first | trivial | omega | ((try simp only [SX.inK]); (try simp [SX.den, SX.IsU8, SX.AllP, *]); (try omega))), ?_⟩
  intro a5 w5 hr5 _
  refine post_call 10 [.v (.slice ad L.length cp)] hr5 (by first | exact wanted_none rfl | exact wanted_zero (hr5.env.same rfl rfl rfl rfl) rfl (by simp)) rfl (callable 10 Try.func10) (rcheck_ok w5 _ L (hL.below hr5.keeps.toBelow) (by omega)) ?_
  rintro e6 w6 ⟨rfl, hb6⟩
  refine ⟨_, rfl, ?_⟩
  have h6 := hr5.ret hb6 27 (.v (.int .i64 (chkE L))) rfl _ (hr5.all.below hb6) (by simp) rfl
  by_cases hC : Chk L
  rotate_left
  · have hc : chkE L = 1 := if_neg hC
    refine seg cfg6_ok mixed PanicFree.body 1000 [true] [(25, false), (30, true), (34, true)] h6 (by first | trivial | exact HpRep.nil | assumption) (by kernel_rfl) fun s_ hs_ => ?_
    simp (maxSteps := 10000000) [SX.vc, SX.stop, SX.contS, SX.contB, SX.contW, SX.contR, SX.contD, SX.sxStep, SX.stepPure, SX.stepNew, SX.stepStore, SX.stepKeep, SX.guardIx, SX.evOp, SX.opd, SX.opds, SX.optOpd, SX.look, SX.putS, SX.gobs, SX.AllP, SX.leave, SX.lookC, SX.lookB, SX.lookT, SX.lookN, SX.findK, SX.evBuiltin, SX.ints, SX.foldI, SX.evBin, SX.evInt, SX.evStr, SX.evEq, SX.arith, SX.evLoad, SX.shapeUp, SX.evFieldAddr, SX.evField, SX.evIndexAddr, SX.evIndex, SX.evFill, SX.evBuild, SX.szs, SX.cellsV, SX.evNew, SX.evStore, SX.spliceL, SX.SV.cells, SX.evConv, SX.evSlice, SX.bnd, SX.evNil, SX.evUn, SX.evPick, SX.pickOpd, SX.popTo, SX.cnd, SX.env0, SX.TD.isAgg, SX.TD.isIface, SX.tails, SX.NotAgg, SX.evLookup, SX.evConvH, SX.evPtrEq, SX.isCells, SX.thaw, SX.frz, SX.fixB, SX.rootIx, SX.Froz, SX.frzStep, SX.fork, Go.Value.cells, Go.undef, cfg6, hc]
    refine ⟨by (unfold SX.Ob; first | trivial | omega | ((try simp only [SX.inK]); (try simp [SX.den, SX.IsU8, SX.AllP, *]); (try omega))), ?_⟩
    intro a7 w7 hr7 _
    exact post_retn (end1 hr7 rfl rfl ⟨rfl, hr7.keeps.toBelow⟩).1
  have hc : chkE L = 0 := if_pos hC
  by_cases hl0 : lba < 0
  · refine seg cfg6_ok mixed PanicFree.body 1000 [true] [(25, false), (30, false), (34, true)] h6 (by first | trivial | exact HpRep.nil | assumption) (by kernel_rfl) fun s_ hs_ => ?_
    simp (maxSteps := 10000000) [SX.vc, SX.stop, SX.contS, SX.contB, SX.contW, SX.contR, SX.contD, SX.sxStep, SX.stepPure, SX.stepNew, SX.stepStore, SX.stepKeep, SX.guardIx, SX.evOp, SX.opd, SX.opds, SX.optOpd, SX.look, SX.putS, SX.gobs, SX.AllP, SX.leave, SX.lookC, SX.lookB, SX.lookT, SX.lookN, SX.findK, SX.evBuiltin, SX.ints, SX.foldI, SX.evBin, SX.evInt, SX.evStr, SX.evEq, SX.arith, SX.evLoad, SX.shapeUp, SX.evFieldAddr, SX.evField, SX.evIndexAddr, SX.evIndex, SX.evFill, SX.evBuild, SX.szs, SX.cellsV, SX.evNew, SX.evStore, SX.spliceL, SX.SV.cells, SX.evConv, SX.evSlice, SX.bnd, SX.evNil, SX.evUn, SX.evPick, SX.pickOpd, SX.popTo, SX.cnd, SX.env0, SX.TD.isAgg, SX.TD.isIface, SX.tails, SX.NotAgg, SX.evLookup, SX.evConvH, SX.evPtrEq, SX.isCells, SX.thaw, SX.frz, SX.fixB, SX.rootIx, SX.Froz, SX.frzStep, SX.fork, Go.Value.cells, Go.undef, cfg6, hc, hl0]
    refine ⟨by (unfold SX.Ob; first | trivial | omega | ((try simp only [SX.inK]); (try simp [SX.den, SX.IsU8, SX.AllP, *]); (try omega))), ?_⟩
    intro a7 w7 hr7 _
    exact post_retn (end1 hr7 rfl rfl ⟨rfl, hr7.keeps.toBelow⟩).1
  by_cases hl1 : 1099511627776 ≤ lba
  · refine seg cfg6_ok mixed PanicFree.body 1000 [true] [(25, false), (30, false), (34, false)] h6 (by first | trivial | exact HpRep.nil | assumption) (by kernel_rfl) fun s_ hs_ => ?_
    simp (maxSteps := 10000000) [SX.vc, SX.stop, SX.contS, SX.contB, SX.contW, SX.contR, SX.contD, SX.sxStep, SX.stepPure, SX.stepNew, SX.stepStore, SX.stepKeep, SX.guardIx, SX.evOp, SX.opd, SX.opds, SX.optOpd, SX.look, SX.putS, SX.gobs, SX.AllP, SX.leave, SX.lookC, SX.lookB, SX.lookT, SX.lookN, SX.findK, SX.evBuiltin, SX.ints, SX.foldI, SX.evBin, SX.evInt, SX.evStr, SX.evEq, SX.arith, SX.evLoad, SX.shapeUp, SX.evFieldAddr, SX.evField, SX.evIndexAddr, SX.evIndex, SX.evFill, SX.evBuild, SX.szs, SX.cellsV, SX.evNew, SX.evStore, SX.spliceL, SX.SV.cells, SX.evConv, SX.evSlice, SX.bnd, SX.evNil, SX.evUn, SX.evPick, SX.pickOpd, SX.popTo, SX.cnd, SX.env0, SX.TD.isAgg, SX.TD.isIface, SX.tails, SX.NotAgg, SX.evLookup, SX.evConvH, SX.evPtrEq, SX.isCells, SX.thaw, SX.frz, SX.fixB, SX.rootIx, SX.Froz, SX.frzStep, SX.fork, Go.Value.cells, Go.undef, cfg6, hc, hl0, hl1]
    refine ⟨by (unfold SX.Ob; first | trivial | omega | ((try simp only [SX.inK]); (try simp [SX.den, SX.IsU8, SX.AllP, *]); (try omega))), ?_⟩
    intro a7 w7 hr7 _
    exact post_retn (end1 hr7 rfl rfl ⟨rfl, hr7.keeps.toBelow⟩).1
  have hB1 : Blocks lba 1 := by unfold Blocks; omega
  refine seg cfg6_ok mixed PanicFree.body 1000 [false] [(25, false), (30, false), (34, false)] h6 (by first | trivial | exact HpRep.nil | assumption) (by kernel_rfl) fun s_ hs_ => ?_
  simp (maxSteps := 10000000) [SX.vc, SX.stop, SX.contS, SX.contB, SX.contW, SX.contR, SX.contD, SX.sxStep, SX.stepPure, SX.stepNew, SX.stepStore, SX.stepKeep, SX.guardIx, SX.evOp, SX.opd, SX.opds, SX.optOpd, SX.look, SX.putS, SX.gobs, SX.AllP, SX.leave, SX.lookC, SX.lookB, SX.lookT, SX.lookN, SX.findK, SX.evBuiltin, SX.ints, SX.foldI, SX.evBin, SX.evInt, SX.evStr, SX.evEq, SX.arith, SX.evLoad, SX.shapeUp, SX.evFieldAddr, SX.evField, SX.evIndexAddr, SX.evIndex, SX.evFill, SX.evBuild, SX.szs, SX.cellsV, SX.evNew, SX.evStore, SX.spliceL, SX.SV.cells, SX.evConv, SX.evSlice, SX.bnd, SX.evNil, SX.evUn, SX.evPick, SX.pickOpd, SX.popTo, SX.cnd, SX.env0, SX.TD.isAgg, SX.TD.isIface, SX.tails, SX.NotAgg, SX.evLookup, SX.evConvH, SX.evPtrEq, SX.isCells, SX.thaw, SX.frz, SX.fixB, SX.rootIx, SX.Froz, SX.frzStep, SX.fork, Go.Value.cells, Go.undef, cfg6, hc, hl0, hl1]
  refine ⟨by (unfold SX.Ob; first | trivial | omega | ((try simp only [SX.inK]); (try simp [SX.den, SX.IsU8, SX.AllP, *]); (try omega))), ?_⟩
  intro a7 w7 hr7 _
  have hA := At_ok w7 _ L lba (hL.below hr7.keeps.toBelow) (by omega)
  refine post_call 19 [.v (.slice ad L.length cp), .v (.int .i64 lba)] hr7 (by first | exact wanted_none rfl | exact wanted_zero (hr7.env.same rfl rfl rfl rfl) rfl (by simp)) rfl (callable 19 Try.func19) (hA) ?_
  rintro e8 w8 ⟨rfl, hb8⟩
  refine ⟨_, rfl, ?_⟩
  have h8 := hr7.ret hb8 42 (.tu [.ag (extC ((atE L lba).getD ext0)), .v (.bool (atE L lba).isSome)]) rfl _ (hr7.all.below hb8) (by simp) rfl
  obtain ⟨r, hr0⟩ : ∃ r, r = (atE L lba).getD ext0 := ⟨_, rfl⟩
  obtain ⟨is, his⟩ : ∃ is, is = (atE L lba).isSome := ⟨_, rfl⟩
  rw [← hr0, ← his] at h8 ⊢
  refine seg cfg6_ok mixed PanicFree.body 1000 [] [] h8 (by first | trivial | exact HpRep.nil | assumption) (by kernel_rfl) fun sX hsX => ?_
  simp (maxSteps := 10000000) [SX.vc, SX.stop, SX.contS, SX.contB, SX.contW, SX.contR, SX.contD, SX.sxStep, SX.stepPure, SX.stepNew, SX.stepStore, SX.stepKeep, SX.guardIx, SX.evOp, SX.opd, SX.opds, SX.optOpd, SX.look, SX.putS, SX.gobs, SX.AllP, SX.leave, SX.lookC, SX.lookB, SX.lookT, SX.lookN, SX.findK, SX.evBuiltin, SX.ints, SX.foldI, SX.evBin, SX.evInt, SX.evStr, SX.evEq, SX.arith, SX.evLoad, SX.shapeUp, SX.evFieldAddr, SX.evField, SX.evIndexAddr, SX.evIndex, SX.evFill, SX.evBuild, SX.szs, SX.cellsV, SX.evNew, SX.evStore, SX.spliceL, SX.SV.cells, SX.evConv, SX.evSlice, SX.bnd, SX.evNil, SX.evUn, SX.evPick, SX.pickOpd, SX.popTo, SX.cnd, SX.env0, SX.TD.isAgg, SX.TD.isIface, SX.tails, SX.NotAgg, SX.evLookup, SX.evConvH, SX.evPtrEq, SX.isCells, SX.thaw, SX.frz, SX.fixB, SX.rootIx, SX.Froz, SX.frzStep, SX.fork, Go.Value.cells, Go.undef, cfg6, extC]
  refine ⟨by (unfold SX.Ob; first | trivial | omega | ((try simp only [SX.inK]); (try simp [SX.den, SX.IsU8, SX.AllP, *]); (try omega))), ?_⟩
  intro a9 w9 hr9 _
  refine post_call 17 [.v (.slice ad L.length cp), .v (.int .i64 lba), .v (.int .i64 1)] hr9 (wanted_none rfl) rfl (callable 17 Try.func17) (Part_ok w9 _ L lba 1 (hL.below hr9.keeps.toBelow) (by omega)) ?_
  rintro e10 w10 (⟨_, _, i, k, v10, rfl, hIK, hO10, hb10⟩ | ⟨hno, _⟩)
  rotate_left
  · exact absurd ⟨hC, hB1⟩ hno
  refine ⟨_, rfl, ?_⟩
  obtain ⟨d10, c10, rfl⟩ := hO10.slice
  have hpl := partL_length (lba := lba) (n := 1) (i := i) hIK.2.2.1
  have hk1 := part_one_len hC hIK
  have h10 := hr9.ret hb10 48 (.tu [.v (.slice d10 (partL L lba 1 i k).length c10), .v (.int .i64 0)]) rfl _ (hr9.all.below hb10) (by simp) rfl
  refine seg cfg6_ok mixed PanicFree.body 1000 [] [] h10.rebase (by first | trivial | exact HpRep.nil | assumption) (by kernel_rfl) fun s_ hs_ => ?_
  simp (maxSteps := 10000000) [SX.vc, SX.stop, SX.contS, SX.contB, SX.contW, SX.contR, SX.contD, SX.sxStep, SX.stepPure, SX.stepNew, SX.stepStore, SX.stepKeep, SX.guardIx, SX.evOp, SX.opd, SX.opds, SX.optOpd, SX.look, SX.putS, SX.gobs, SX.AllP, SX.leave, SX.lookC, SX.lookB, SX.lookT, SX.lookN, SX.findK, SX.evBuiltin, SX.ints, SX.foldI, SX.evBin, SX.evInt, SX.evStr, SX.evEq, SX.arith, SX.evLoad, SX.shapeUp, SX.evFieldAddr, SX.evField, SX.evIndexAddr, SX.evIndex, SX.evFill, SX.evBuild, SX.szs, SX.cellsV, SX.evNew, SX.evStore, SX.spliceL, SX.SV.cells, SX.evConv, SX.evSlice, SX.bnd, SX.evNil, SX.evUn, SX.evPick, SX.pickOpd, SX.popTo, SX.cnd, SX.env0, SX.TD.isAgg, SX.TD.isIface, SX.tails, SX.NotAgg, SX.evLookup, SX.evConvH, SX.evPtrEq, SX.isCells, SX.thaw, SX.frz, SX.fixB, SX.rootIx, SX.Froz, SX.frzStep, SX.fork, Go.Value.cells, Go.undef, cfg6]
  refine ⟨by (unfold SX.Ob; first | trivial | omega | ((try simp only [SX.inK]); (try simp [SX.den, SX.IsU8, SX.AllP, *]); (try omega))), ?_⟩
  intro a11 w11 hr11' _
  have hr11 := h10.unbase hr11'
  refine post_call 20 [.v (.slice ad L.length cp), .v (.int .i64 lba), .v (.int .i64 1)] hr11 (wanted_none rfl) rfl (callable 20 Try.func20) (Gaps_ok w11 _ L lba 1 (hL.below hr11.keeps.toBelow) (by omega)) ?_
  rintro e12 w12 (⟨_, _, i', k', v12, rfl, hIK', hO12, hb12⟩ | ⟨hno, _⟩)
  rotate_left
  · exact absurd ⟨hC, hB1⟩ hno
  refine ⟨_, rfl, ?_⟩
  obtain ⟨d12, c12, rfl⟩ := hO12.slice
  have hPF := part_facts hC hB1 hIK'
  obtain ⟨gG, gH, _⟩ := gap_facts hB1 hPF
  obtain ⟨G, hG⟩ : ∃ G, G = gapGo lba (lba + 1) (partL L lba 1 i' k') := ⟨_, rfl⟩
  rw [← hG] at hO12 gG gH ⊢
  have h12 := hr11.ret hb12 54 (.tu [.v (.slice d12 G.length c12), .v (.int .i64 0)]) rfl _ (hr11.all.below hb12) (by simp) rfl
  have z12 : w9.heap.size ≤ w12.heap.size := Nat.le_trans (Nat.le_trans hb10.size hr11'.keeps.size) hb12.size
  refine seg cfg6n_ok mixed PanicFree.body 1000 [] [] h12.rebase (by first | trivial | exact HpRep.nil | assumption) (by kernel_rfl) fun s_ hs_ => ?_
  simp (maxSteps := 10000000) [SX.vc, SX.stop, SX.contS, SX.contB, SX.contW, SX.contR, SX.contD, SX.sxStep, SX.stepPure, SX.stepNew, SX.stepStore, SX.stepKeep, SX.guardIx, SX.evOp, SX.opd, SX.opds, SX.optOpd, SX.look, SX.putS, SX.gobs, SX.AllP, SX.leave, SX.lookC, SX.lookB, SX.lookT, SX.lookN, SX.findK, SX.evBuiltin, SX.ints, SX.foldI, SX.evBin, SX.evInt, SX.evStr, SX.evEq, SX.arith, SX.evLoad, SX.shapeUp, SX.evFieldAddr, SX.evField, SX.evIndexAddr, SX.evIndex, SX.evFill, SX.evBuild, SX.szs, SX.cellsV, SX.evNew, SX.evStore, SX.spliceL, SX.SV.cells, SX.evConv, SX.evSlice, SX.bnd, SX.evNil, SX.evUn, SX.evPick, SX.pickOpd, SX.popTo, SX.cnd, SX.env0, SX.TD.isAgg, SX.TD.isIface, SX.tails, SX.NotAgg, SX.evLookup, SX.evConvH, SX.evPtrEq, SX.isCells, SX.thaw, SX.frz, SX.fixB, SX.rootIx, SX.Froz, SX.frzStep, SX.fork, Go.Value.cells, Go.undef, cfg6n, cfg6]
  refine ⟨by (unfold SX.Ob; first | trivial | omega | ((try simp only [SX.inK]); (try simp [SX.den, SX.IsU8, SX.AllP, *]); (try omega))), ?_⟩
  intro a12 w12b hr12' _
  have hr12 := h12.unbase hr12'
  refine post_cut (AtsJ w (.slice ad L.length cp) lba n other) 2 rfl ?_ fun a13 w13 hr13 => ?_
  · have s9 := SO.rep_lt hr9.all.1.1
    have s9b := SO.rep_lt hr9.all.2.1.1
    have z9 : w.heap.size ≤ w9.heap.size := hr9.keeps.size
    have hO11 := hO10.keep hr11'.keeps (by
      intro x hx
      simp [frameAt, mutB] at hx
      rcases hx with rfl | rfl <;> omega)
    have hO12' := (hO11.below hb12).keep hr12'.keeps (by
      intro x hx
      simp [frameAt, mutB] at hx
      rcases hx with rfl | rfl <;> omega)
    have hk' := hIK.2.2.1
    rcases part_one hC hIK with ⟨hik, hat⟩ | ⟨hat, hik⟩
    · have hisF : is = false := by rw [his, hat]; rfl
      subst hisF
      have hpl0 : (partL L lba 1 i k).length = 0 := by omega
      have hno : ∀ t, ¬ Has L lba t := fun t ht => by
        have h1 := (blk_has hC.sep).2 ht
        have h2 := atE_some hC lba
        rw [hat, h1] at h2
        cases h2
      have hQn : partL L lba 1 i' k' = [] := by
        cases hq : partL L lba 1 i' k' with
        | nil => rfl
        | cons e q =>
          exfalso
          rw [hq] at hPF
          have he := hPF.good.may e (by simp)
          have hen := he.2.1
          have hl := hPF.low e (by simp)
          have h1 := (hPF.has e.lba (tell e.lba e)).1 ⟨e, by simp, by unfold In; omega, rfl⟩
          have hel : e.lba = lba := by omega
          rw [hel] at h1
          exact hno _ h1.2
      have hGl : G.length = 1 := by
        rw [hG, hQn]
        simp only [gapGo, gapL]
        rw [if_pos (by omega)]
        rfl
      refine seg cfg6_ok mixed PanicFree.body 1000 [false] [(59, false), (63, false), (70, false), (78, false), (80, false)] hr12 (by first | trivial | exact HpRep.nil | assumption) (by kernel_rfl) fun s_ hs_ => ?_
      simp (maxSteps := 10000000) [SX.vc, SX.stop, SX.contS, SX.contB, SX.contW, SX.contR, SX.contD, SX.sxStep, SX.stepPure, SX.stepNew, SX.stepStore, SX.stepKeep, SX.guardIx, SX.evOp, SX.opd, SX.opds, SX.optOpd, SX.look, SX.putS, SX.gobs, SX.AllP, SX.leave, SX.lookC, SX.lookB, SX.lookT, SX.lookN, SX.findK, SX.evBuiltin, SX.ints, SX.foldI, SX.evBin, SX.evInt, SX.evStr, SX.evEq, SX.arith, SX.evLoad, SX.shapeUp, SX.evFieldAddr, SX.evField, SX.evIndexAddr, SX.evIndex, SX.evFill, SX.evBuild, SX.szs, SX.cellsV, SX.evNew, SX.evStore, SX.spliceL, SX.SV.cells, SX.evConv, SX.evSlice, SX.bnd, SX.evNil, SX.evUn, SX.evPick, SX.pickOpd, SX.popTo, SX.cnd, SX.env0, SX.TD.isAgg, SX.TD.isIface, SX.tails, SX.NotAgg, SX.evLookup, SX.evConvH, SX.evPtrEq, SX.isCells, SX.thaw, SX.frz, SX.fixB, SX.rootIx, SX.Froz, SX.frzStep, SX.fork, Go.Value.cells, Go.undef, cfg6, hpl0, hGl]
      refine ⟨by (unfold SX.Ob; first | trivial | omega | ((try simp only [SX.inK]); (try simp [SX.den, SX.IsU8, SX.AllP, *]); (try omega))), ?_⟩
      intro a13 w13 hr13 _
      exact post_inv (by unfold AtsJ; exact hr13.re (by simp [envTo, SX.look, den]) trivial rfl rfl)
    · have hki : k = i + 1 := by omega
      have hat' := hat ⟨hki, hB1⟩
      obtain ⟨x, hx⟩ : ∃ x, x = clipE lba 1 (nth ext0 L i) := ⟨_, rfl⟩
      rw [← hx] at hat'
      have hisT : is = true := by rw [his, hat']; rfl
      have hrx : r = x := by rw [hr0, hat']; rfl
      subst hisT hrx
      have hpl1 : (partL L lba 1 i k).length = 1 := by omega
      have hGn : G = [] := by
        cases G with
        | nil => rfl
        | cons e G =>
          exfalso
          have he := gG.may e (by simp)
          have hen := he.2.1
          obtain ⟨h1, h2, _⟩ := (gH e.lba (tell e.lba e)).1 ⟨e, by simp, by unfold In; omega, rfl⟩
          have hel : e.lba = lba := by omega
          have hs : (atE L lba).isSome = true := by rw [hat']; rfl
          rw [atE_some hC, Option.isSome_iff_exists] at hs
          obtain ⟨t, ht⟩ := hs
          exact h2 t (by rw [hel]; exact (blk_has hC.sep).1 ht)
      subst hGn
      obtain ⟨b, N, cap, u, row, hP, hv, hc0, hc1, hc2, hrep, hrow⟩ := hO12'.opn (k := 0) (by omega)
      cases hv
      have hrow0 : row 0 = [.v (.int .i64 r.lba), .v (.int .i64 r.n), .v (.int .i64 r.ver), .v (.int .i64 r.zone), .v (.int .i64 r.off)] := by
        rw [hrow 0 (by omega)]
        have e1 : (partL L lba 1 i k)[0]? = some r := by
          simp only [partL, List.getElem?_map, List.getElem?_take, List.getElem?_drop, Nat.add_zero]
          rw [if_pos (by omega), get_nth (d := ext0) (by omega), hx]
          rfl
        rw [nth_get e1]
        rfl
      have hA12 := hr12.all
      have hbz : w9.heap.size ≤ b := hP
      have hN0 : 0 < N := by omega
      have h13 := (hr12.top 12 (.sl 2 b 0 0 (partL L lba 1 i k).length c10 5) rfl (by simp [den])).see _ (hA12.append (x := (b, false, .arr 0 N row 5 u (0, 0))) hrep (by simp) (by
        intro e he
        simp only [List.mem_cons, List.not_mem_nil, or_false] at he
        rcases he with rfl | rfl
        · exact fun h => by
            have h' : sF = b := h
            omega
        · exact fun h => by
            have h' : sX = b := h
            omega))
      refine seg cfg6_ok mixed PanicFree.body 1000 [] [(59, false), (63, false), (70, false), (78, false), (80, true)] h13 (by first | trivial | exact HpRep.nil | assumption) (by kernel_rfl) fun s_ hs_ => ?_
      simp (maxSteps := 10000000) [SX.vc, SX.stop, SX.contS, SX.contB, SX.contW, SX.contR, SX.contD, SX.sxStep, SX.stepPure, SX.stepNew, SX.stepStore, SX.stepKeep, SX.guardIx, SX.evOp, SX.opd, SX.opds, SX.optOpd, SX.look, SX.putS, SX.gobs, SX.AllP, SX.leave, SX.lookC, SX.lookB, SX.lookT, SX.lookN, SX.findK, SX.evBuiltin, SX.ints, SX.foldI, SX.evBin, SX.evInt, SX.evStr, SX.evEq, SX.arith, SX.evLoad, SX.shapeUp, SX.evFieldAddr, SX.evField, SX.evIndexAddr, SX.evIndex, SX.evFill, SX.evBuild, SX.szs, SX.cellsV, SX.evNew, SX.evStore, SX.spliceL, SX.SV.cells, SX.evConv, SX.evSlice, SX.bnd, SX.evNil, SX.evUn, SX.evPick, SX.pickOpd, SX.popTo, SX.cnd, SX.env0, SX.TD.isAgg, SX.TD.isIface, SX.tails, SX.NotAgg, SX.evLookup, SX.evConvH, SX.evPtrEq, SX.isCells, SX.thaw, SX.frz, SX.fixB, SX.rootIx, SX.Froz, SX.frzStep, SX.fork, Go.Value.cells, Go.undef, cfg6, hpl1, hrow0]
      refine ⟨by (unfold SX.Ob; first | trivial | omega | ((try simp only [SX.inK]); (try simp [SX.den, SX.IsU8, SX.AllP, *]); (try omega))), ?_⟩
      intro a14 w14 hr14 ht14
      refine post_eqQ (C := cfg6) cfg6_ok (ok := fun t => t == 24) ok24 hr14 ht14 rfl rfl rfl rfl rfl (by kernel_rfl) (b := true) ((eqExt r r).trans (by simp)) (by first | exact wanted_none rfl | exact wanted_zero (hr14.env.same rfl rfl rfl rfl) rfl (by simp)) rfl (by simp) rfl fun a_ hr15 => ?_
      simp only [SX.eqR] at hr15
      have ht15 := ht14
      refine seg cfg6_ok mixed PanicFree.body 1000 [false] [(59, false), (63, false), (70, false), (78, false), (80, true)] hr15 (by first | trivial | exact HpRep.nil | assumption) (by kernel_rfl) fun s_ hs_ => ?_
      simp (maxSteps := 10000000) [SX.vc, SX.stop, SX.contS, SX.contB, SX.contW, SX.contR, SX.contD, SX.sxStep, SX.stepPure, SX.stepNew, SX.stepStore, SX.stepKeep, SX.guardIx, SX.evOp, SX.opd, SX.opds, SX.optOpd, SX.look, SX.putS, SX.gobs, SX.AllP, SX.leave, SX.lookC, SX.lookB, SX.lookT, SX.lookN, SX.findK, SX.evBuiltin, SX.ints, SX.foldI, SX.evBin, SX.evInt, SX.evStr, SX.evEq, SX.arith, SX.evLoad, SX.shapeUp, SX.evFieldAddr, SX.evField, SX.evIndexAddr, SX.evIndex, SX.evFill, SX.evBuild, SX.szs, SX.cellsV, SX.evNew, SX.evStore, SX.spliceL, SX.SV.cells, SX.evConv, SX.evSlice, SX.bnd, SX.evNil, SX.evUn, SX.evPick, SX.pickOpd, SX.popTo, SX.cnd, SX.env0, SX.TD.isAgg, SX.TD.isIface, SX.tails, SX.NotAgg, SX.evLookup, SX.evConvH, SX.evPtrEq, SX.isCells, SX.thaw, SX.frz, SX.fixB, SX.rootIx, SX.Froz, SX.frzStep, SX.fork, Go.Value.cells, Go.undef, cfg6]
      refine ⟨by (unfold SX.Ob; first | trivial | omega | ((try simp only [SX.inK]); (try simp [SX.den, SX.IsU8, SX.AllP, *]); (try omega))), ?_⟩
      intro a16 w16 hr16 _
      exact post_inv (by unfold AtsJ; exact hr16.re (by simp [envTo, SX.look, den]) trivial rfl rfl)
  unfold AtsJ at hr13
  refine seg cfg6_ok mixed PanicFree.body 1000 [] [] hr13 (by first | trivial | exact HpRep.nil | assumption) (by kernel_rfl) fun s_ hs_ => ?_
  simp (maxSteps := 10000000) [SX.vc, SX.stop, SX.contS, SX.contB, SX.contW, SX.contR, SX.contD, SX.sxStep, SX.stepPure, SX.stepNew, SX.stepStore, SX.stepKeep, SX.guardIx, SX.evOp, SX.opd, SX.opds, SX.optOpd, SX.look, SX.putS, SX.gobs, SX.AllP, SX.leave, SX.lookC, SX.lookB, SX.lookT, SX.lookN, SX.findK, SX.evBuiltin, SX.ints, SX.foldI, SX.evBin, SX.evInt, SX.evStr, SX.evEq, SX.arith, SX.evLoad, SX.shapeUp, SX.evFieldAddr, SX.evField, SX.evIndexAddr, SX.evIndex, SX.evFill, SX.evBuild, SX.szs, SX.cellsV, SX.evNew, SX.evStore, SX.spliceL, SX.SV.cells, SX.evConv, SX.evSlice, SX.bnd, SX.evNil, SX.evUn, SX.evPick, SX.pickOpd, SX.popTo, SX.cnd, SX.env0, SX.TD.isAgg, SX.TD.isIface, SX.tails, SX.NotAgg, SX.evLookup, SX.evConvH, SX.evPtrEq, SX.isCells, SX.thaw, SX.frz, SX.fixB, SX.rootIx, SX.Froz, SX.frzStep, SX.fork, Go.Value.cells, Go.undef, cfg6]
  refine ⟨by (unfold SX.Ob; first | trivial | omega | ((try simp only [SX.inK]); (try simp [SX.den, SX.IsU8, SX.AllP, *]); (try omega))), ?_⟩
  intro a14 w14 hr14 _
  refine post_call 14 [.v (.slice ad L.length cp), .v (.int .i64 lba), .v (.int .i64 n)] hr14 (wanted_none rfl) rfl (callable 14 Try.func14) (Cut_ok w14 _ L lba n (hL.below hr14.keeps.toBelow) (by omega)) ?_
  rintro e15 w15 (⟨_, hBn, i, k, v15, rfl, hIK, hO15, hb15⟩ | ⟨_, rfl, hb15⟩)
  rotate_left
  · refine ⟨_, rfl, ?_⟩
    have h15 := hr14.ret hb15 92 (.tu [.v (.slice none 0 0), .v (.int .i64 1)]) rfl _ (hr14.all.below hb15) (by simp) rfl
    refine seg cfg6_ok mixed PanicFree.body 1000 [true] [] h15 (by first | trivial | exact HpRep.nil | assumption) (by kernel_rfl) fun s_ hs_ => ?_
    simp (maxSteps := 10000000) [SX.vc, SX.stop, SX.contS, SX.contB, SX.contW, SX.contR, SX.contD, SX.sxStep, SX.stepPure, SX.stepNew, SX.stepStore, SX.stepKeep, SX.guardIx, SX.evOp, SX.opd, SX.opds, SX.optOpd, SX.look, SX.putS, SX.gobs, SX.AllP, SX.leave, SX.lookC, SX.lookB, SX.lookT, SX.lookN, SX.findK, SX.evBuiltin, SX.ints, SX.foldI, SX.evBin, SX.evInt, SX.evStr, SX.evEq, SX.arith, SX.evLoad, SX.shapeUp, SX.evFieldAddr, SX.evField, SX.evIndexAddr, SX.evIndex, SX.evFill, SX.evBuild, SX.szs, SX.cellsV, SX.evNew, SX.evStore, SX.spliceL, SX.SV.cells, SX.evConv, SX.evSlice, SX.bnd, SX.evNil, SX.evUn, SX.evPick, SX.pickOpd, SX.popTo, SX.cnd, SX.env0, SX.TD.isAgg, SX.TD.isIface, SX.tails, SX.NotAgg, SX.evLookup, SX.evConvH, SX.evPtrEq, SX.isCells, SX.thaw, SX.frz, SX.fixB, SX.rootIx, SX.Froz, SX.frzStep, SX.fork, Go.Value.cells, Go.undef, cfg6]
    refine ⟨by (unfold SX.Ob; first | trivial | omega | ((try simp only [SX.inK]); (try simp [SX.den, SX.IsU8, SX.AllP, *]); (try omega))), ?_⟩
    intro a16 w16 hr16 _
    exact post_retn (end1 hr16 rfl rfl ⟨rfl, hr16.keeps.toBelow⟩).1
  refine ⟨_, rfl, ?_⟩
  have h15 := hr14.ret hb15 92 (.tu [.v v15, .v (.int .i64 0)]) (v := .tuple #[v15, .int .i64 0]) (by simp [den, denL]) _ (hr14.all.below hb15) (by simp) rfl
  obtain ⟨C, hCC⟩ : ∃ C, C = replL L lba n [] i k := ⟨_, rfl⟩
  have hCk : Chk C := hCC ▸ repl_chk hC hBn hIK (.inl rfl)
  have hCl : C.length ≤ 302 := by
    have := repl_len hIK (.inl rfl : With lba n [])
    rw [hCC]
    omega
  have hCh : ∀ b t, Has C b t ↔ ¬ (lba ≤ b ∧ b < lba + n) ∧ Has L b t := fun b t => by
    rw [hCC, repl_has hC hIK (.inl rfl)]
    exact ⟨fun h => h.elim (fun h => absurd h.2.2 Has.nil) id, .inr⟩
  have hin : ∀ b, lba ≤ b → b < lba + n → blk C b = none := fun b h1 h2 => (blk_none hCk.sep).2 fun t ht => ((hCh b t).1 ht).1 ⟨h1, h2⟩
  have hout : ∀ b, ¬ (lba ≤ b ∧ b < lba + n) → blk C b = blk L b := fun b h => blk_ext hCk.sep hC.sep fun t => (hCh b t).trans ⟨fun h => h.2, fun h2 => ⟨h, h2⟩⟩
  rw [← hCC] at hO15
  have hn0 : 0 < n := hBn.2.1
  refine seg cfg6_ok mixed PanicFree.body 1000 [false] [] h15.rebase (by first | trivial | exact HpRep.nil | assumption) (by kernel_rfl) fun s_ hs_ => ?_
  simp (maxSteps := 10000000) [SX.vc, SX.stop, SX.contS, SX.contB, SX.contW, SX.contR, SX.contD, SX.sxStep, SX.stepPure, SX.stepNew, SX.stepStore, SX.stepKeep, SX.guardIx, SX.evOp, SX.opd, SX.opds, SX.optOpd, SX.look, SX.putS, SX.gobs, SX.AllP, SX.leave, SX.lookC, SX.lookB, SX.lookT, SX.lookN, SX.findK, SX.evBuiltin, SX.ints, SX.foldI, SX.evBin, SX.evInt, SX.evStr, SX.evEq, SX.arith, SX.evLoad, SX.shapeUp, SX.evFieldAddr, SX.evField, SX.evIndexAddr, SX.evIndex, SX.evFill, SX.evBuild, SX.szs, SX.cellsV, SX.evNew, SX.evStore, SX.spliceL, SX.SV.cells, SX.evConv, SX.evSlice, SX.bnd, SX.evNil, SX.evUn, SX.evPick, SX.pickOpd, SX.popTo, SX.cnd, SX.env0, SX.TD.isAgg, SX.TD.isIface, SX.tails, SX.NotAgg, SX.evLookup, SX.evConvH, SX.evPtrEq, SX.isCells, SX.thaw, SX.frz, SX.fixB, SX.rootIx, SX.Froz, SX.frzStep, SX.fork, Go.Value.cells, Go.undef, cfg6]
  refine ⟨by (unfold SX.Ob; first | trivial | omega | ((try simp only [SX.inK]); (try simp [SX.den, SX.IsU8, SX.AllP, *]); (try omega))), ?_⟩
  intro a16 w16 hr16' _
  have hr16 := h15.unbase hr16'
  have hO16 := hO15.keep hr16'.keeps (by simp [frameAt, mutB])
  have hA := At_ok w16 v15 C lba hO16.rd (by omega)
  have his0 : (atE C lba).isSome = false := by rw [atE_some hCk, hin lba (by omega) (by omega)]; rfl
  obtain ⟨rr, hrr⟩ : ∃ rr, rr = (atE C lba).getD ext0 := ⟨_, rfl⟩
  have hA' : Calls Try.prog 19 (denL [.v v15, .v (.int .i64 lba)]).toArray w16 (Ret w16 (.tu [.ag (extC rr), .v (.bool false)])) := by
    refine hA.mono fun e w' he => ?_
    rw [AtR, his0, ← hrr] at he
    exact he
  refine post_call 19 [.v v15, .v (.int .i64 lba)] hr16 (by first | exact wanted_none rfl | exact wanted_zero (hr16.env.same rfl rfl rfl rfl) rfl (by simp)) rfl (callable 19 Try.func19) (hA') ?_
  rintro e17 w17 ⟨rfl, hb17⟩
  refine ⟨_, rfl, ?_⟩
  have h17 := hr16.ret hb17 101 (.tu [.ag (extC rr), .v (.bool false)]) rfl _ (hr16.all.below hb17) (by simp) rfl
  have hO17 := hO16.below hb17
  have hi3b := hi3
  unfold inK at hi3b
  by_cases hg1 : lba ≤ other
  · by_cases hg2 : other - lba < n
    · refine seg cfg6_ok mixed PanicFree.body 1000 [false, true] [(108, true), (116, true)] h17.rebase (by first | trivial | exact HpRep.nil | assumption) (by kernel_rfl) fun s_ hs_ => ?_
      simp (maxSteps := 10000000) [SX.vc, SX.stop, SX.contS, SX.contB, SX.contW, SX.contR, SX.contD, SX.sxStep, SX.stepPure, SX.stepNew, SX.stepStore, SX.stepKeep, SX.guardIx, SX.evOp, SX.opd, SX.opds, SX.optOpd, SX.look, SX.putS, SX.gobs, SX.AllP, SX.leave, SX.lookC, SX.lookB, SX.lookT, SX.lookN, SX.findK, SX.evBuiltin, SX.ints, SX.foldI, SX.evBin, SX.evInt, SX.evStr, SX.evEq, SX.arith, SX.evLoad, SX.shapeUp, SX.evFieldAddr, SX.evField, SX.evIndexAddr, SX.evIndex, SX.evFill, SX.evBuild, SX.szs, SX.cellsV, SX.evNew, SX.evStore, SX.spliceL, SX.SV.cells, SX.evConv, SX.evSlice, SX.bnd, SX.evNil, SX.evUn, SX.evPick, SX.pickOpd, SX.popTo, SX.cnd, SX.env0, SX.TD.isAgg, SX.TD.isIface, SX.tails, SX.NotAgg, SX.evLookup, SX.evConvH, SX.evPtrEq, SX.isCells, SX.thaw, SX.frz, SX.fixB, SX.rootIx, SX.Froz, SX.frzStep, SX.fork, Go.Value.cells, Go.undef, cfg6, extC, hg1, hg2]
      refine ⟨by (unfold SX.Ob; first | trivial | omega | ((try simp only [SX.inK]); (try simp [SX.den, SX.IsU8, SX.AllP, *]); (try omega))), ?_⟩
      intro a18 w18 hr18' _
      have hr18 := h17.unbase hr18'
      have hO18 := hO17.keep hr18'.keeps (by simp [frameAt, mutB])
      have hA2 := at_ok w18 v15 C other hO18.rd (by omega)
      rw [tellC_blk hCk, hin other hg1 (by omega)] at hA2
      refine post_call 13 [.v v15, .v (.int .i64 other)] hr18 (by first | exact wanted_none rfl | exact wanted_zero (hr18.env.same rfl rfl rfl rfl) rfl (by simp)) rfl (callable 13 Try.func13) (hA2) ?_
      rintro e19 w19 ⟨rfl, hb19⟩
      refine ⟨_, rfl, ?_⟩
      have h19 := hr18.ret hb19 119 (.ag (tellB none)) rfl _ (hr18.all.below hb19) (by simp) rfl
      refine seg cfg6_ok mixed PanicFree.body 1000 [] [(116, true)] h19 (by first | trivial | exact HpRep.nil | assumption) (by kernel_rfl) fun s_ hs_ => ?_
      simp (maxSteps := 10000000) [SX.vc, SX.stop, SX.contS, SX.contB, SX.contW, SX.contR, SX.contD, SX.sxStep, SX.stepPure, SX.stepNew, SX.stepStore, SX.stepKeep, SX.guardIx, SX.evOp, SX.opd, SX.opds, SX.optOpd, SX.look, SX.putS, SX.gobs, SX.AllP, SX.leave, SX.lookC, SX.lookB, SX.lookT, SX.lookN, SX.findK, SX.evBuiltin, SX.ints, SX.foldI, SX.evBin, SX.evInt, SX.evStr, SX.evEq, SX.arith, SX.evLoad, SX.shapeUp, SX.evFieldAddr, SX.evField, SX.evIndexAddr, SX.evIndex, SX.evFill, SX.evBuild, SX.szs, SX.cellsV, SX.evNew, SX.evStore, SX.spliceL, SX.SV.cells, SX.evConv, SX.evSlice, SX.bnd, SX.evNil, SX.evUn, SX.evPick, SX.pickOpd, SX.popTo, SX.cnd, SX.env0, SX.TD.isAgg, SX.TD.isIface, SX.tails, SX.NotAgg, SX.evLookup, SX.evConvH, SX.evPtrEq, SX.isCells, SX.thaw, SX.frz, SX.fixB, SX.rootIx, SX.Froz, SX.frzStep, SX.fork, Go.Value.cells, Go.undef, cfg6, tellB]
      refine ⟨by (unfold SX.Ob; first | trivial | omega | ((try simp only [SX.inK]); (try simp [SX.den, SX.IsU8, SX.AllP, *]); (try omega))), ?_⟩
      intro a20 w20 hr20 _
      exact post_retn (end1 hr20 rfl rfl ⟨rfl, hr20.keeps.toBelow⟩).1
    · refine seg cfg6_ok mixed PanicFree.body 1000 [false, false] [(108, true), (124, true)] h17.rebase (by first | trivial | exact HpRep.nil | assumption) (by kernel_rfl) fun s_ hs_ => ?_
      simp (maxSteps := 10000000) [SX.vc, SX.stop, SX.contS, SX.contB, SX.contW, SX.contR, SX.contD, SX.sxStep, SX.stepPure, SX.stepNew, SX.stepStore, SX.stepKeep, SX.guardIx, SX.evOp, SX.opd, SX.opds, SX.optOpd, SX.look, SX.putS, SX.gobs, SX.AllP, SX.leave, SX.lookC, SX.lookB, SX.lookT, SX.lookN, SX.findK, SX.evBuiltin, SX.ints, SX.foldI, SX.evBin, SX.evInt, SX.evStr, SX.evEq, SX.arith, SX.evLoad, SX.shapeUp, SX.evFieldAddr, SX.evField, SX.evIndexAddr, SX.evIndex, SX.evFill, SX.evBuild, SX.szs, SX.cellsV, SX.evNew, SX.evStore, SX.spliceL, SX.SV.cells, SX.evConv, SX.evSlice, SX.bnd, SX.evNil, SX.evUn, SX.evPick, SX.pickOpd, SX.popTo, SX.cnd, SX.env0, SX.TD.isAgg, SX.TD.isIface, SX.tails, SX.NotAgg, SX.evLookup, SX.evConvH, SX.evPtrEq, SX.isCells, SX.thaw, SX.frz, SX.fixB, SX.rootIx, SX.Froz, SX.frzStep, SX.fork, Go.Value.cells, Go.undef, cfg6, extC, hg1, hg2]
      refine ⟨by (unfold SX.Ob; first | trivial | omega | ((try simp only [SX.inK]); (try simp [SX.den, SX.IsU8, SX.AllP, *]); (try omega))), ?_⟩
      intro a18 w18 hr18' _
      have hr18 := h17.unbase hr18'
      have hO18 := hO17.keep hr18'.keeps (by simp [frameAt, mutB])
      have hA2 := at_ok w18 v15 C other hO18.rd (by omega)
      rw [tellC_blk hCk, hout other (by omega)] at hA2
      refine post_call 13 [.v v15, .v (.int .i64 other)] hr18 (by first | exact wanted_none rfl | exact wanted_zero (hr18.env.same rfl rfl rfl rfl) rfl (by simp)) rfl (callable 13 Try.func13) (hA2) ?_
      rintro e19 w19 ⟨rfl, hb19⟩
      refine ⟨_, rfl, ?_⟩
      have h19 := hr18.ret hb19 127 (.ag (tellB (blk L other))) rfl _ (hr18.all.below hb19) (by simp) rfl
      refine seg cfg6_ok mixed PanicFree.body 1000 [] [(124, true)] h19 (by first | trivial | exact HpRep.nil | assumption) (by kernel_rfl) fun s_ hs_ => ?_
      simp (maxSteps := 10000000) [SX.vc, SX.stop, SX.contS, SX.contB, SX.contW, SX.contR, SX.contD, SX.sxStep, SX.stepPure, SX.stepNew, SX.stepStore, SX.stepKeep, SX.guardIx, SX.evOp, SX.opd, SX.opds, SX.optOpd, SX.look, SX.putS, SX.gobs, SX.AllP, SX.leave, SX.lookC, SX.lookB, SX.lookT, SX.lookN, SX.findK, SX.evBuiltin, SX.ints, SX.foldI, SX.evBin, SX.evInt, SX.evStr, SX.evEq, SX.arith, SX.evLoad, SX.shapeUp, SX.evFieldAddr, SX.evField, SX.evIndexAddr, SX.evIndex, SX.evFill, SX.evBuild, SX.szs, SX.cellsV, SX.evNew, SX.evStore, SX.spliceL, SX.SV.cells, SX.evConv, SX.evSlice, SX.bnd, SX.evNil, SX.evUn, SX.evPick, SX.pickOpd, SX.popTo, SX.cnd, SX.env0, SX.TD.isAgg, SX.TD.isIface, SX.tails, SX.NotAgg, SX.evLookup, SX.evConvH, SX.evPtrEq, SX.isCells, SX.thaw, SX.frz, SX.fixB, SX.rootIx, SX.Froz, SX.frzStep, SX.fork, Go.Value.cells, Go.undef, cfg6]
      refine ⟨by (unfold SX.Ob; first | trivial | omega | ((try simp only [SX.inK]); (try simp [SX.den, SX.IsU8, SX.AllP, *]); (try omega))), ?_⟩
      intro a20 w20 hr20 _
      have hA3 := at_ok w20 (.slice ad L.length cp) L other (hL.below hr20.keeps.toBelow) (by omega)
      rw [tellC_blk hC] at hA3
      refine post_call 13 [.v (.slice ad L.length cp), .v (.int .i64 other)] hr20 (by first | exact wanted_none rfl | exact wanted_zero (hr20.env.same rfl rfl rfl rfl) rfl (by simp)) rfl (callable 13 Try.func13) (hA3) ?_
      rintro e21 w21 ⟨rfl, hb21⟩
      refine ⟨_, rfl, ?_⟩
      have h21 := hr20.ret hb21 130 (.ag (tellB (blk L other))) rfl _ (hr20.all.below hb21) (by simp) rfl
      refine post_eqP (C := cfg6) cfg6_ok (ok := fun t => t == 33) ok33 h21 rfl rfl rfl (by kernel_rfl) (b := true) (eqBlk _ _ rfl rfl rfl rfl rfl) (by first | exact wanted_none rfl | exact wanted_zero (h21.env.same rfl rfl rfl rfl) rfl (by simp)) rfl (by simp) rfl fun a_ h22 => ?_
      simp only [SX.eqR] at h22
      refine seg cfg6_ok mixed PanicFree.body 1000 [] [(124, true)] h22 (by first | trivial | exact HpRep.nil | assumption) (by kernel_rfl) fun s_ hs_ => ?_
      simp (maxSteps := 10000000) [SX.vc, SX.stop, SX.contS, SX.contB, SX.contW, SX.contR, SX.contD, SX.sxStep, SX.stepPure, SX.stepNew, SX.stepStore, SX.stepKeep, SX.guardIx, SX.evOp, SX.opd, SX.opds, SX.optOpd, SX.look, SX.putS, SX.gobs, SX.AllP, SX.leave, SX.lookC, SX.lookB, SX.lookT, SX.lookN, SX.findK, SX.evBuiltin, SX.ints, SX.foldI, SX.evBin, SX.evInt, SX.evStr, SX.evEq, SX.arith, SX.evLoad, SX.shapeUp, SX.evFieldAddr, SX.evField, SX.evIndexAddr, SX.evIndex, SX.evFill, SX.evBuild, SX.szs, SX.cellsV, SX.evNew, SX.evStore, SX.spliceL, SX.SV.cells, SX.evConv, SX.evSlice, SX.bnd, SX.evNil, SX.evUn, SX.evPick, SX.pickOpd, SX.popTo, SX.cnd, SX.env0, SX.TD.isAgg, SX.TD.isIface, SX.tails, SX.NotAgg, SX.evLookup, SX.evConvH, SX.evPtrEq, SX.isCells, SX.thaw, SX.frz, SX.fixB, SX.rootIx, SX.Froz, SX.frzStep, SX.fork, Go.Value.cells, Go.undef, cfg6]
      refine ⟨by (unfold SX.Ob; first | trivial | omega | ((try simp only [SX.inK]); (try simp [SX.den, SX.IsU8, SX.AllP, *]); (try omega))), ?_⟩
      intro a23 w23 hr23 _
      exact post_retn (end1 hr23 rfl rfl ⟨rfl, hr23.keeps.toBelow⟩).1
  · refine seg cfg6_ok mixed PanicFree.body 1000 [false, false] [(108, false), (124, true)] h17.rebase (by first | trivial | exact HpRep.nil | assumption) (by kernel_rfl) fun s_ hs_ => ?_
    simp (maxSteps := 10000000) [SX.vc, SX.stop, SX.contS, SX.contB, SX.contW, SX.contR, SX.contD, SX.sxStep, SX.stepPure, SX.stepNew, SX.stepStore, SX.stepKeep, SX.guardIx, SX.evOp, SX.opd, SX.opds, SX.optOpd, SX.look, SX.putS, SX.gobs, SX.AllP, SX.leave, SX.lookC, SX.lookB, SX.lookT, SX.lookN, SX.findK, SX.evBuiltin, SX.ints, SX.foldI, SX.evBin, SX.evInt, SX.evStr, SX.evEq, SX.arith, SX.evLoad, SX.shapeUp, SX.evFieldAddr, SX.evField, SX.evIndexAddr, SX.evIndex, SX.evFill, SX.evBuild, SX.szs, SX.cellsV, SX.evNew, SX.evStore, SX.spliceL, SX.SV.cells, SX.evConv, SX.evSlice, SX.bnd, SX.evNil, SX.evUn, SX.evPick, SX.pickOpd, SX.popTo, SX.cnd, SX.env0, SX.TD.isAgg, SX.TD.isIface, SX.tails, SX.NotAgg, SX.evLookup, SX.evConvH, SX.evPtrEq, SX.isCells, SX.thaw, SX.frz, SX.fixB, SX.rootIx, SX.Froz, SX.frzStep, SX.fork, Go.Value.cells, Go.undef, cfg6, extC, hg1]
    refine ⟨by (unfold SX.Ob; first | trivial | omega | ((try simp only [SX.inK]); (try simp [SX.den, SX.IsU8, SX.AllP, *]); (try omega))), ?_⟩
    intro a18 w18 hr18' _
    have hr18 := h17.unbase hr18'
    have hO18 := hO17.keep hr18'.keeps (by simp [frameAt, mutB])
    have hA2 := at_ok w18 v15 C other hO18.rd (by omega)
    rw [tellC_blk hCk, hout other (by omega)] at hA2
    refine post_call 13 [.v v15, .v (.int .i64 other)] hr18 (by first | exact wanted_none rfl | exact wanted_zero (hr18.env.same rfl rfl rfl rfl) rfl (by simp)) rfl (callable 13 Try.func13) (hA2) ?_
    rintro e19 w19 ⟨rfl, hb19⟩
    refine ⟨_, rfl, ?_⟩
    have h19 := hr18.ret hb19 127 (.ag (tellB (blk L other))) rfl _ (hr18.all.below hb19) (by simp) rfl
    refine seg cfg6_ok mixed PanicFree.body 1000 [] [(124, true)] h19 (by first | trivial | exact HpRep.nil | assumption) (by kernel_rfl) fun s_ hs_ => ?_
    simp (maxSteps := 10000000) [SX.vc, SX.stop, SX.contS, SX.contB, SX.contW, SX.contR, SX.contD, SX.sxStep, SX.stepPure, SX.stepNew, SX.stepStore, SX.stepKeep, SX.guardIx, SX.evOp, SX.opd, SX.opds, SX.optOpd, SX.look, SX.putS, SX.gobs, SX.AllP, SX.leave, SX.lookC, SX.lookB, SX.lookT, SX.lookN, SX.findK, SX.evBuiltin, SX.ints, SX.foldI, SX.evBin, SX.evInt, SX.evStr, SX.evEq, SX.arith, SX.evLoad, SX.shapeUp, SX.evFieldAddr, SX.evField, SX.evIndexAddr, SX.evIndex, SX.evFill, SX.evBuild, SX.szs, SX.cellsV, SX.evNew, SX.evStore, SX.spliceL, SX.SV.cells, SX.evConv, SX.evSlice, SX.bnd, SX.evNil, SX.evUn, SX.evPick, SX.pickOpd, SX.popTo, SX.cnd, SX.env0, SX.TD.isAgg, SX.TD.isIface, SX.tails, SX.NotAgg, SX.evLookup, SX.evConvH, SX.evPtrEq, SX.isCells, SX.thaw, SX.frz, SX.fixB, SX.rootIx, SX.Froz, SX.frzStep, SX.fork, Go.Value.cells, Go.undef, cfg6]
    refine ⟨by (unfold SX.Ob; first | trivial | omega | ((try simp only [SX.inK]); (try simp [SX.den, SX.IsU8, SX.AllP, *]); (try omega))), ?_⟩
    intro a20 w20 hr20 _
    have hA3 := at_ok w20 (.slice ad L.length cp) L other (hL.below hr20.keeps.toBelow) (by omega)
    rw [tellC_blk hC] at hA3
    refine post_call 13 [.v (.slice ad L.length cp), .v (.int .i64 other)] hr20 (by first | exact wanted_none rfl | exact wanted_zero (hr20.env.same rfl rfl rfl rfl) rfl (by simp)) rfl (callable 13 Try.func13) (hA3) ?_
    rintro e21 w21 ⟨rfl, hb21⟩
    refine ⟨_, rfl, ?_⟩
    have h21 := hr20.ret hb21 130 (.ag (tellB (blk L other))) rfl _ (hr20.all.below hb21) (by simp) rfl
    refine post_eqP (C := cfg6) cfg6_ok (ok := fun t => t == 33) ok33 h21 rfl rfl rfl (by kernel_rfl) (b := true) (eqBlk _ _ rfl rfl rfl rfl rfl) (by first | exact wanted_none rfl | exact wanted_zero (h21.env.same rfl rfl rfl rfl) rfl (by simp)) rfl (by simp) rfl fun a_ h22 => ?_
    simp only [SX.eqR] at h22
    refine seg cfg6_ok mixed PanicFree.body 1000 [] [(124, true)] h22 (by first | trivial | exact HpRep.nil | assumption) (by kernel_rfl) fun s_ hs_ => ?_
    simp (maxSteps := 10000000) [SX.vc, SX.stop, SX.contS, SX.contB, SX.contW, SX.contR, SX.contD, SX.sxStep, SX.stepPure, SX.stepNew, SX.stepStore, SX.stepKeep, SX.guardIx, SX.evOp, SX.opd, SX.opds, SX.optOpd, SX.look, SX.putS, SX.gobs, SX.AllP, SX.leave, SX.lookC, SX.lookB, SX.lookT, SX.lookN, SX.findK, SX.evBuiltin, SX.ints, SX.foldI, SX.evBin, SX.evInt, SX.evStr, SX.evEq, SX.arith, SX.evLoad, SX.shapeUp, SX.evFieldAddr, SX.evField, SX.evIndexAddr, SX.evIndex, SX.evFill, SX.evBuild, SX.szs, SX.cellsV, SX.evNew, SX.evStore, SX.spliceL, SX.SV.cells, SX.evConv, SX.evSlice, SX.bnd, SX.evNil, SX.evUn, SX.evPick, SX.pickOpd, SX.popTo, SX.cnd, SX.env0, SX.TD.isAgg, SX.TD.isIface, SX.tails, SX.NotAgg, SX.evLookup, SX.evConvH, SX.evPtrEq, SX.isCells, SX.thaw, SX.frz, SX.fixB, SX.rootIx, SX.Froz, SX.frzStep, SX.fork, Go.Value.cells, Go.undef, cfg6]
    refine ⟨by (unfold SX.Ob; first | trivial | omega | ((try simp only [SX.inK]); (try simp [SX.den, SX.IsU8, SX.AllP, *]); (try omega))), ?_⟩
    intro a23 w23 hr23 _
    exact post_retn (end1 hr23 rfl rfl ⟨rfl, hr23.keeps.toBelow⟩).1
end Go.Proofs
