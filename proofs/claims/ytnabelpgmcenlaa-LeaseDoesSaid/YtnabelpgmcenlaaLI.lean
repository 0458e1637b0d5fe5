/- Leases: the chapter's example. -/
import Derived.Test.YtnabelpgmcenlaaLH
import Derived.Test.YtnabelpgmcenlaaLK
namespace Go.Proofs
set_option linter.unusedVariables false
set_option linter.unusedSimpArgs false
open Go Go.SX Go.RowKit

theorem mutB_lt {F : Fr} {w : World} : ∀ {H : Hp}, HpAll F w H → ∀ x ∈ mutB H, x < w.heap.size
  | [], _, x, hx => by simp [mutB] at hx
  | (b, m, o) :: H, h, x, hx => by
    simp only [mutB, List.filter_cons] at hx
    split at hx
    · rcases List.mem_cons.1 hx with rfl | hx
      · exact SO.rep_lt h.1.1
      · exact mutB_lt h.2 x hx
    · exact mutB_lt h.2 x hx

def tabL1 : Tab := ⟨1, 0, [⟨3, 1, 1, 10⟩]⟩
def tabL2 : Tab := ⟨1, 10, []⟩
theorem lv1 : grantE tab0 3 1 10 = 0 ∧ grantX tab0 3 1 10 = ⟨3, 1, 1, 10⟩ ∧ grantT tab0 3 1 10 = tabL1 := by decide
theorem lv2 : grantE tabL1 3 2 10 = 60 ∧ grantX tabL1 3 2 10 = lse0 ∧ grantT tabL1 3 2 10 = tab0 := by decide
theorem lv3 : tickE tabL1 10 = 0 ∧ tickO tabL1 10 = [⟨3, 1, 1, 10⟩] ∧ tickT tabL1 10 = tabL2 := by decide
theorem lv4 : grantE tabL2 3 2 10 = 0 ∧ grantX tabL2 3 2 10 = ⟨3, 2, 2, 20⟩ ∧ grantT tabL2 3 2 10 = ⟨2, 10, [⟨3, 2, 2, 20⟩]⟩ := by decide

set_option maxRecDepth 100000 in
set_option maxHeartbeats 16000000 in
/-- live. -/
theorem live_ok (w : World) : Calls Try.prog 9 #[] w (Ret w (.v (.bool true))) := by
  refine enter (F := frame0 w) Try.func9 rfl [] [] (by simp [Try.f9]) trivial (keeps0 w) fun a hr => ?_
  refine seg cfg9_ok mixed PanicFree.body 1000 [] [] hr (by first | trivial | exact HpRep.nil | assumption) (by kernel_rfl) fun s_ hs_ => ?_
  simp (maxSteps := 10000000) [SX.vc, SX.stop, SX.contS, SX.contB, SX.contW, SX.contR, SX.contD, SX.sxStep, SX.stepPure, SX.stepNew, SX.stepStore, SX.stepKeep, SX.guardIx, SX.evOp, SX.opd, SX.opds, SX.optOpd, SX.look, SX.putS, SX.gobs, SX.AllP, SX.leave, SX.lookC, SX.lookB, SX.lookT, SX.lookN, SX.findK, SX.evBuiltin, SX.ints, SX.foldI, SX.evBin, SX.evInt, SX.evStr, SX.evEq, SX.arith, SX.evLoad, SX.shapeUp, SX.evFieldAddr, SX.evField, SX.evIndexAddr, SX.evIndex, SX.evFill, SX.evBuild, SX.szs, SX.cellsV, SX.evNew, SX.evStore, SX.spliceL, SX.SV.cells, SX.evConv, SX.evSlice, SX.bnd, SX.evNil, SX.evUn, SX.evPick, SX.pickOpd, SX.popTo, SX.cnd, SX.env0, SX.TD.isAgg, SX.TD.isIface, SX.tails, SX.NotAgg, SX.evLookup, SX.evConvH, SX.evPtrEq, SX.isCells, SX.thaw, SX.frz, SX.fixB, SX.rootIx, SX.Froz, SX.frzStep, SX.fork, Go.Value.cells, Go.undef, cfg9, Try.f9]
  refine ⟨by (unfold SX.Ob; first | trivial | omega | ((try simp only [SX.inK]); (try simp [SX.den, SX.IsU8, SX.AllP, *]); (try omega))), ?_⟩
  intro a1 w1 hr1 _
  refine post_call 15 [.ag [.v (.int .i64 0), .v (.int .i64 0), .v (.slice none 0 0)], .v (.int .i64 3), .v (.int .i64 1), .v (.int .i64 10)] hr1 (by first | exact wanted_none rfl | exact wanted_zero (hr1.env.same rfl rfl rfl rfl) rfl (by simp) | exact wanted_zero (hr1.env.same rfl rfl rfl rfl) rfl (by simp [*])) rfl (callable 15 Try.func15) (Grant_ok w1 (.slice none 0 0) tab0 3 1 10 (OwS.nil (d := lse0) (P := fun _ => True)).rd (by decide) (by decide) (by decide)) ?_
  rintro e2 w2 ⟨v2, rfl, hL2, hb2⟩
  refine ⟨_, rfl, ?_⟩
  have h2 := hr1.ret hb2 15 (.tu [.ag (tabC (grantT tab0 3 1 10) v2), .ag (lseC (grantX tab0 3 1 10)), .v (.int .i64 (grantE tab0 3 1 10))]) rfl _ (hr1.all.below hb2) (by simp) rfl
  rw [lv1.2.2] at hL2
  obtain ⟨ad2, cp2, rfl⟩ := hL2.slice
  have h2 := h2.top 15 (.tu [.ag (tabC tabL1 (.slice ad2 tabL1.L.length cp2)), .ag (lseC ⟨3, 1, 1, 10⟩), .v (.int .i64 0)]) rfl (by rw [lv1.1, lv1.2.1, lv1.2.2])
  refine seg cfg9_ok mixed PanicFree.body 1000 [] [] h2.rebase (by first | trivial | exact HpRep.nil | assumption) (by kernel_rfl) fun s_ hs_ => ?_
  simp (maxSteps := 10000000) [SX.vc, SX.stop, SX.contS, SX.contB, SX.contW, SX.contR, SX.contD, SX.sxStep, SX.stepPure, SX.stepNew, SX.stepStore, SX.stepKeep, SX.guardIx, SX.evOp, SX.opd, SX.opds, SX.optOpd, SX.look, SX.putS, SX.gobs, SX.AllP, SX.leave, SX.lookC, SX.lookB, SX.lookT, SX.lookN, SX.findK, SX.evBuiltin, SX.ints, SX.foldI, SX.evBin, SX.evInt, SX.evStr, SX.evEq, SX.arith, SX.evLoad, SX.shapeUp, SX.evFieldAddr, SX.evField, SX.evIndexAddr, SX.evIndex, SX.evFill, SX.evBuild, SX.szs, SX.cellsV, SX.evNew, SX.evStore, SX.spliceL, SX.SV.cells, SX.evConv, SX.evSlice, SX.bnd, SX.evNil, SX.evUn, SX.evPick, SX.pickOpd, SX.popTo, SX.cnd, SX.env0, SX.TD.isAgg, SX.TD.isIface, SX.tails, SX.NotAgg, SX.evLookup, SX.evConvH, SX.evPtrEq, SX.isCells, SX.thaw, SX.frz, SX.fixB, SX.rootIx, SX.Froz, SX.frzStep, SX.fork, Go.Value.cells, Go.undef, cfg9, tabC, lseC]
  refine ⟨by (unfold SX.Ob; first | trivial | omega | ((try simp only [SX.inK]); (try simp [SX.den, SX.IsU8, SX.AllP, *]); (try omega))), ?_⟩
  intro a3 w3 hr3' _
  have hr3 := h2.unbase hr3'
  have hL3 := (hL2.mono (P' := fun x => x < w2.heap.size) fun x h _ => h).keep hr3'.keeps (by simp [frameAt, mutB])
  have z3 : w2.heap.size ≤ w3.heap.size := hr3'.keeps.size
  refine post_call 15 [.ag [.v (.int .i64 tabL1.last), .v (.int .i64 tabL1.now), .v (.slice ad2 tabL1.L.length cp2)], .v (.int .i64 3), .v (.int .i64 2), .v (.int .i64 10)] hr3 (by first | exact wanted_none rfl | exact wanted_zero (hr3.env.same rfl rfl rfl rfl) rfl (by simp) | exact wanted_zero (hr3.env.same rfl rfl rfl rfl) rfl (by simp [*])) rfl (callable 15 Try.func15) (Grant_ok w3 _ tabL1 3 2 10 hL3 (by decide) (by decide) (by decide)) ?_
  rintro e4 w4 ⟨v4, rfl, hL4, hb4⟩
  refine ⟨_, rfl, ?_⟩
  have h4 := hr3.ret hb4 21 (.tu [.ag (tabC (grantT tabL1 3 2 10) v4), .ag (lseC (grantX tabL1 3 2 10)), .v (.int .i64 (grantE tabL1 3 2 10))]) rfl _ (hr3.all.below hb4) (by simp) rfl
  rw [lv2.2.2] at hL4
  obtain ⟨ad4, cp4, rfl⟩ := hL4.slice
  have h4 := h4.top 21 (.tu [.ag (tabC tab0 (.slice ad4 tab0.L.length cp4)), .ag (lseC lse0), .v (.int .i64 60)]) rfl (by rw [lv2.1, lv2.2.1, lv2.2.2])
  refine seg cfg9_ok mixed PanicFree.body 1000 [] [] h4.rebase (by first | trivial | exact HpRep.nil | assumption) (by kernel_rfl) fun s_ hs_ => ?_
  simp (maxSteps := 10000000) [SX.vc, SX.stop, SX.contS, SX.contB, SX.contW, SX.contR, SX.contD, SX.sxStep, SX.stepPure, SX.stepNew, SX.stepStore, SX.stepKeep, SX.guardIx, SX.evOp, SX.opd, SX.opds, SX.optOpd, SX.look, SX.putS, SX.gobs, SX.AllP, SX.leave, SX.lookC, SX.lookB, SX.lookT, SX.lookN, SX.findK, SX.evBuiltin, SX.ints, SX.foldI, SX.evBin, SX.evInt, SX.evStr, SX.evEq, SX.arith, SX.evLoad, SX.shapeUp, SX.evFieldAddr, SX.evField, SX.evIndexAddr, SX.evIndex, SX.evFill, SX.evBuild, SX.szs, SX.cellsV, SX.evNew, SX.evStore, SX.spliceL, SX.SV.cells, SX.evConv, SX.evSlice, SX.bnd, SX.evNil, SX.evUn, SX.evPick, SX.pickOpd, SX.popTo, SX.cnd, SX.env0, SX.TD.isAgg, SX.TD.isIface, SX.tails, SX.NotAgg, SX.evLookup, SX.evConvH, SX.evPtrEq, SX.isCells, SX.thaw, SX.frz, SX.fixB, SX.rootIx, SX.Froz, SX.frzStep, SX.fork, Go.Value.cells, Go.undef, cfg9, tabC, lseC]
  refine ⟨by (unfold SX.Ob; first | trivial | omega | ((try simp only [SX.inK]); (try simp [SX.den, SX.IsU8, SX.AllP, *]); (try omega))), ?_⟩
  intro a5 w5 hr5' _
  have hr5 := h4.unbase hr5'
  have hL5 := (hL3.below hb4).keep hr5'.keeps (by simp [frameAt, mutB]; omega)
  have z5 : w3.heap.size ≤ w5.heap.size := Nat.le_trans hb4.size hr5'.keeps.size
  refine post_call 13 [.ag [.v (.int .i64 tabL1.last), .v (.int .i64 tabL1.now), .v (.slice ad2 tabL1.L.length cp2)], .v (.int .i64 10)] hr5 (by first | exact wanted_none rfl | exact wanted_zero (hr5.env.same rfl rfl rfl rfl) rfl (by simp) | exact wanted_zero (hr5.env.same rfl rfl rfl rfl) rfl (by simp [*])) rfl (callable 13 Try.func13) (Tick_ok w5 _ tabL1 10 hL5 (by decide)) ?_
  rintro e6 w6 ⟨v6, v6', rfl, hL6, hO6, hb6⟩
  refine ⟨_, rfl, ?_⟩
  have h6 := hr5.ret hb6 27 (.tu [.ag (tabC (tickT tabL1 10) v6), .v v6', .v (.int .i64 (tickE tabL1 10))]) rfl _ (hr5.all.below hb6) (by simp) rfl
  rw [lv3.2.2] at hL6
  rw [lv3.2.1] at hO6
  obtain ⟨ad6, cp6, rfl⟩ := hL6.slice
  obtain ⟨ad6', cp6', rfl⟩ := hO6.slice
  have h6 := h6.top 27 (.tu [.ag (tabC tabL2 (.slice ad6 tabL2.L.length cp6)), .v (.slice ad6' 1 cp6'), .v (.int .i64 0)]) rfl (by rw [lv3.1, lv3.2.2]; simp [den, denL])
  refine seg cfg9_ok mixed PanicFree.body 1000 [] [] h6.rebase (by first | trivial | exact HpRep.nil | assumption) (by kernel_rfl) fun s_ hs_ => ?_
  simp (maxSteps := 10000000) [SX.vc, SX.stop, SX.contS, SX.contB, SX.contW, SX.contR, SX.contD, SX.sxStep, SX.stepPure, SX.stepNew, SX.stepStore, SX.stepKeep, SX.guardIx, SX.evOp, SX.opd, SX.opds, SX.optOpd, SX.look, SX.putS, SX.gobs, SX.AllP, SX.leave, SX.lookC, SX.lookB, SX.lookT, SX.lookN, SX.findK, SX.evBuiltin, SX.ints, SX.foldI, SX.evBin, SX.evInt, SX.evStr, SX.evEq, SX.arith, SX.evLoad, SX.shapeUp, SX.evFieldAddr, SX.evField, SX.evIndexAddr, SX.evIndex, SX.evFill, SX.evBuild, SX.szs, SX.cellsV, SX.evNew, SX.evStore, SX.spliceL, SX.SV.cells, SX.evConv, SX.evSlice, SX.bnd, SX.evNil, SX.evUn, SX.evPick, SX.pickOpd, SX.popTo, SX.cnd, SX.env0, SX.TD.isAgg, SX.TD.isIface, SX.tails, SX.NotAgg, SX.evLookup, SX.evConvH, SX.evPtrEq, SX.isCells, SX.thaw, SX.frz, SX.fixB, SX.rootIx, SX.Froz, SX.frzStep, SX.fork, Go.Value.cells, Go.undef, cfg9, tabC, lseC]
  refine ⟨by (unfold SX.Ob; first | trivial | omega | ((try simp only [SX.inK]); (try simp [SX.den, SX.IsU8, SX.AllP, *]); (try omega))), ?_⟩
  intro a7 w7 hr7' _
  have hr7 := h6.unbase hr7'
  have hL7 := (hL6.mono (P' := fun x => w5.heap.size ≤ x ∧ x < w6.heap.size) fun x h1 h2 => ⟨h2, h1⟩).keep hr7'.keeps (fun x hx h => absurd (mutB_lt hr5.all x hx) (by omega))
  have hO7 := hO6.keep hr7'.keeps (fun x hx h => absurd (mutB_lt hr5.all x hx) (by omega))
  refine post_call 15 [.ag [.v (.int .i64 tabL2.last), .v (.int .i64 tabL2.now), .v (.slice ad6 tabL2.L.length cp6)], .v (.int .i64 3), .v (.int .i64 2), .v (.int .i64 10)] hr7 (by first | exact wanted_none rfl | exact wanted_zero (hr7.env.same rfl rfl rfl rfl) rfl (by simp) | exact wanted_zero (hr7.env.same rfl rfl rfl rfl) rfl (by simp [*])) rfl (callable 15 Try.func15) (Grant_ok w7 _ tabL2 3 2 10 hL7 (by decide) (by decide) (by decide)) ?_
  rintro e8 w8 ⟨v8, rfl, hL8, hb8⟩
  refine ⟨_, rfl, ?_⟩
  have h8 := hr7.ret hb8 33 (.tu [.ag (tabC (grantT tabL2 3 2 10) v8), .ag (lseC (grantX tabL2 3 2 10)), .v (.int .i64 (grantE tabL2 3 2 10))]) rfl _ (hr7.all.below hb8) (by simp) rfl
  rw [lv4.2.2] at hL8
  obtain ⟨ad8, cp8, rfl⟩ := hL8.slice
  have h8 := h8.top 33 (.tu [.ag (tabC ⟨2, 10, [⟨3, 2, 2, 20⟩]⟩ (.slice ad8 1 cp8)), .ag (lseC ⟨3, 2, 2, 20⟩), .v (.int .i64 0)]) rfl (by rw [lv4.1, lv4.2.1, lv4.2.2]; rfl)
  refine seg cfg9_ok mixed PanicFree.body 1000 [] [(39, true), (44, true), (48, true), (52, true), (57, true), (61, true)] h8 (by first | trivial | exact HpRep.nil | assumption) (by kernel_rfl) fun s_ hs_ => ?_
  simp (maxSteps := 10000000) [SX.vc, SX.stop, SX.contS, SX.contB, SX.contW, SX.contR, SX.contD, SX.sxStep, SX.stepPure, SX.stepNew, SX.stepStore, SX.stepKeep, SX.guardIx, SX.evOp, SX.opd, SX.opds, SX.optOpd, SX.look, SX.putS, SX.gobs, SX.AllP, SX.leave, SX.lookC, SX.lookB, SX.lookT, SX.lookN, SX.findK, SX.evBuiltin, SX.ints, SX.foldI, SX.evBin, SX.evInt, SX.evStr, SX.evEq, SX.arith, SX.evLoad, SX.shapeUp, SX.evFieldAddr, SX.evField, SX.evIndexAddr, SX.evIndex, SX.evFill, SX.evBuild, SX.szs, SX.cellsV, SX.evNew, SX.evStore, SX.spliceL, SX.SV.cells, SX.evConv, SX.evSlice, SX.bnd, SX.evNil, SX.evUn, SX.evPick, SX.pickOpd, SX.popTo, SX.cnd, SX.env0, SX.TD.isAgg, SX.TD.isIface, SX.tails, SX.NotAgg, SX.evLookup, SX.evConvH, SX.evPtrEq, SX.isCells, SX.thaw, SX.frz, SX.fixB, SX.rootIx, SX.Froz, SX.frzStep, SX.fork, Go.Value.cells, Go.undef, cfg9, tabC, lseC]
  refine ⟨by (unfold SX.Ob; first | trivial | omega | ((try simp only [SX.inK]); (try simp [SX.den, SX.IsU8, SX.AllP, *]); (try omega))), ?_⟩
  intro a9 w9 hr9 _
  refine post_eqP (C := cfg9) cfg9_ok (ok := fun t => t == 33) ok33 hr9 rfl rfl rfl (by kernel_rfl) (b := true) (eqLse ⟨3, 1, 1, 10⟩ ⟨3, 1, 1, 10⟩) (by first | exact wanted_none rfl | exact wanted_zero (hr9.env.same rfl rfl rfl rfl) rfl (by simp)) rfl (by simp) rfl fun a_ hr10 => ?_
  simp only [SX.eqR] at hr10
  refine seg cfg9_ok mixed PanicFree.body 1000 [] [(39, true), (44, true), (48, true), (52, true), (57, true), (61, true)] hr10 (by first | trivial | exact HpRep.nil | assumption) (by kernel_rfl) fun s_ hs_ => ?_
  simp (maxSteps := 10000000) [SX.vc, SX.stop, SX.contS, SX.contB, SX.contW, SX.contR, SX.contD, SX.sxStep, SX.stepPure, SX.stepNew, SX.stepStore, SX.stepKeep, SX.guardIx, SX.evOp, SX.opd, SX.opds, SX.optOpd, SX.look, SX.putS, SX.gobs, SX.AllP, SX.leave, SX.lookC, SX.lookB, SX.lookT, SX.lookN, SX.findK, SX.evBuiltin, SX.ints, SX.foldI, SX.evBin, SX.evInt, SX.evStr, SX.evEq, SX.arith, SX.evLoad, SX.shapeUp, SX.evFieldAddr, SX.evField, SX.evIndexAddr, SX.evIndex, SX.evFill, SX.evBuild, SX.szs, SX.cellsV, SX.evNew, SX.evStore, SX.spliceL, SX.SV.cells, SX.evConv, SX.evSlice, SX.bnd, SX.evNil, SX.evUn, SX.evPick, SX.pickOpd, SX.popTo, SX.cnd, SX.env0, SX.TD.isAgg, SX.TD.isIface, SX.tails, SX.NotAgg, SX.evLookup, SX.evConvH, SX.evPtrEq, SX.isCells, SX.thaw, SX.frz, SX.fixB, SX.rootIx, SX.Froz, SX.frzStep, SX.fork, Go.Value.cells, Go.undef, cfg9]
  refine ⟨by (unfold SX.Ob; first | trivial | omega | ((try simp only [SX.inK]); (try simp [SX.den, SX.IsU8, SX.AllP, *]); (try omega))), ?_⟩
  intro a11 w11 hr11 _
  exact post_retn (end1 hr11 rfl rfl ⟨by simp [den], hr11.keeps.toBelow⟩).1
end Go.Proofs
