/- Leases: LeaseOnce walked. -/
import Derived.Test.YtnabelpgmcenlaaLS
namespace Go.Proofs
set_option linter.unusedVariables false
set_option linter.unusedSimpArgs false
open Go Go.SX Go.RowKit

theorem HpAll.imm1 {F : Fr} {w : World} {x : Nat × Bool × SO} {H : Hp} (h : HpAll F w (x :: H)) : HpAll F w (x :: H.map fun e => (e.1, false, e.2.2)) :=
  ⟨⟨h.1.1, h.1.2.1, fun e he => by
    obtain ⟨e', he', rfl⟩ := List.mem_map.1 he
    exact h.1.2.2 e' he'⟩, HpAll.imm h.2⟩

def tabS (t : Tab) (v : Value) : List SV := [.v (.int .i64 t.last), .v (.int .i64 t.now), .v v]
def OnLoop (w : World) (G : List Opr) (vg : Value) (s4 : Nat) (m : Nat) (a : Act) (w' : World) : Prop :=
  ∃ (k : Nat) (T : Tab) (ad : Option Addr) (cp : Nat), m = G.length - k ∧ k ≤ G.length ∧ ChkT T ∧ T.L.length ≤ k ∧ T.last ≤ k ∧ T.now ≤ 1152921504606846976 ∧ RdL (fun x => x ≠ s4) w' (.slice ad T.L.length cp) T.L ∧
    RepX (frame0 w) ⟨[(22, 0, .v (.int .i64 k)), (21, 0, .v (.int .i64 G.length)), (20, 0, .v vg), (4, 0, .ptr 0 s4 0), (5, 0, .v (.int .i64 T.last)), (3, 0, .v (.bool true)), (2, 0, .v (.bool false))], [(s4, true, .cells (tabS T (.slice ad T.L.length cp)) 24)], 0, 0, 107, [], [], []⟩ a w'

set_option maxRecDepth 100000 in
set_option maxHeartbeats 32000000 in
/-- LeaseOnce. -/
theorem once_ok (w : World) (vg : Value) (G : List Opr) (hG : RdO (fun x => x < w.heap.size) w vg G) (hnG : G.length ≤ 1000000000000000) : Calls Try.prog 5 #[vg] w (fun ev w' => ev = .returned (.bool true) ∧ Below w.heap.size w w') := by
  obtain ⟨ad, cp, rfl⟩ := hG.slice
  refine enter (F := frame0 w) Try.func5 rfl [.v (.slice ad G.length cp)] [] (by simp [Try.f5, denL, den]) trivial (keeps0 w) fun a hr => ?_
  refine seg cfg5_ok mixed PanicFree.body 1000 [] [] hr (by first | trivial | exact HpRep.nil | assumption) (by kernel_rfl) fun s_ hs_ => ?_
  simp (maxSteps := 10000000) [SX.vc, SX.stop, SX.contS, SX.contB, SX.contW, SX.contR, SX.contD, SX.sxStep, SX.stepPure, SX.stepNew, SX.stepStore, SX.stepKeep, SX.guardIx, SX.evOp, SX.opd, SX.opds, SX.optOpd, SX.look, SX.putS, SX.gobs, SX.AllP, SX.leave, SX.lookC, SX.lookB, SX.lookT, SX.lookN, SX.findK, SX.evBuiltin, SX.ints, SX.foldI, SX.evBin, SX.evInt, SX.evStr, SX.evEq, SX.arith, SX.evLoad, SX.shapeUp, SX.evFieldAddr, SX.evField, SX.evIndexAddr, SX.evIndex, SX.evFill, SX.evBuild, SX.szs, SX.cellsV, SX.evNew, SX.evStore, SX.spliceL, SX.SV.cells, SX.evConv, SX.evSlice, SX.bnd, SX.evNil, SX.evUn, SX.evPick, SX.pickOpd, SX.popTo, SX.cnd, SX.env0, SX.TD.isAgg, SX.TD.isIface, SX.tails, SX.NotAgg, SX.evLookup, SX.evConvH, SX.evPtrEq, SX.isCells, SX.thaw, SX.frz, SX.fixB, SX.rootIx, SX.Froz, SX.frzStep, SX.fork, Go.Value.cells, Go.undef, cfg5, Try.f5]
  refine ⟨by (unfold SX.Ob; first | trivial | omega | ((try simp only [SX.inK]); (try simp [SX.den, SX.IsU8, SX.AllP, *]); (try omega))), ?_⟩
  intro a1 w1 hr1 _
  refine post_call 9 [] hr1 (by first | exact wanted_none rfl | exact wanted_zero (hr1.env.same rfl rfl rfl rfl) rfl (by simp) | exact wanted_zero (hr1.env.same rfl rfl rfl rfl) rfl (by simp [*])) rfl (callable 9 Try.func9) (live_ok w1) ?_
  rintro e2' w2 ⟨rfl, hb2⟩
  refine ⟨_, rfl, ?_⟩
  have h2 := hr1.ret hb2 13 (.v (.bool true)) rfl _ (hr1.all.below hb2) (by simp) rfl
  refine seg cfg5_ok mixed PanicFree.body 1000 [] [] h2 (by first | trivial | exact HpRep.nil | assumption) (by kernel_rfl) fun s_ hs_ => ?_
  simp (maxSteps := 10000000) [SX.vc, SX.stop, SX.contS, SX.contB, SX.contW, SX.contR, SX.contD, SX.sxStep, SX.stepPure, SX.stepNew, SX.stepStore, SX.stepKeep, SX.guardIx, SX.evOp, SX.opd, SX.opds, SX.optOpd, SX.look, SX.putS, SX.gobs, SX.AllP, SX.leave, SX.lookC, SX.lookB, SX.lookT, SX.lookN, SX.findK, SX.evBuiltin, SX.ints, SX.foldI, SX.evBin, SX.evInt, SX.evStr, SX.evEq, SX.arith, SX.evLoad, SX.shapeUp, SX.evFieldAddr, SX.evField, SX.evIndexAddr, SX.evIndex, SX.evFill, SX.evBuild, SX.szs, SX.cellsV, SX.evNew, SX.evStore, SX.spliceL, SX.SV.cells, SX.evConv, SX.evSlice, SX.bnd, SX.evNil, SX.evUn, SX.evPick, SX.pickOpd, SX.popTo, SX.cnd, SX.env0, SX.TD.isAgg, SX.TD.isIface, SX.tails, SX.NotAgg, SX.evLookup, SX.evConvH, SX.evPtrEq, SX.isCells, SX.thaw, SX.frz, SX.fixB, SX.rootIx, SX.Froz, SX.frzStep, SX.fork, Go.Value.cells, Go.undef, cfg5]
  refine ⟨by (unfold SX.Ob; first | trivial | omega | ((try simp only [SX.inK]); (try simp [SX.den, SX.IsU8, SX.AllP, *]); (try omega))), ?_⟩
  intro a3 w3 hr3 _
  refine post_call 10 [.ag [.v (.int .i64 0), .v (.int .i64 0), .v (.slice none 0 0)], .v (.slice ad G.length cp)] hr3 (by first | exact wanted_none rfl | exact wanted_zero (hr3.env.same rfl rfl rfl rfl) rfl (by simp) | exact wanted_zero (hr3.env.same rfl rfl rfl rfl) rfl (by simp [*])) rfl (callable 10 Try.func10) (few_ok w3 (.slice none 0 0) tab0 ad G.length cp (OwS.nil (d := lse0) (P := fun _ => True)).rd) ?_
  rintro e4 w4 ⟨rfl, hb4⟩
  refine ⟨_, rfl, ?_⟩
  have h4 := hr3.ret hb4 16 (.v (.bool (decide (FewP tab0 G.length)))) rfl _ (hr3.all.below hb4) (by simp) rfl
  by_cases hF : FewP tab0 G.length
  rotate_left
  · refine seg cfg5_ok mixed PanicFree.body 1000 [true] [] h4 (by first | trivial | exact HpRep.nil | assumption) (by kernel_rfl) fun s_ hs_ => ?_
    simp (maxSteps := 10000000) [SX.vc, SX.stop, SX.contS, SX.contB, SX.contW, SX.contR, SX.contD, SX.sxStep, SX.stepPure, SX.stepNew, SX.stepStore, SX.stepKeep, SX.guardIx, SX.evOp, SX.opd, SX.opds, SX.optOpd, SX.look, SX.putS, SX.gobs, SX.AllP, SX.leave, SX.lookC, SX.lookB, SX.lookT, SX.lookN, SX.findK, SX.evBuiltin, SX.ints, SX.foldI, SX.evBin, SX.evInt, SX.evStr, SX.evEq, SX.arith, SX.evLoad, SX.shapeUp, SX.evFieldAddr, SX.evField, SX.evIndexAddr, SX.evIndex, SX.evFill, SX.evBuild, SX.szs, SX.cellsV, SX.evNew, SX.evStore, SX.spliceL, SX.SV.cells, SX.evConv, SX.evSlice, SX.bnd, SX.evNil, SX.evUn, SX.evPick, SX.pickOpd, SX.popTo, SX.cnd, SX.env0, SX.TD.isAgg, SX.TD.isIface, SX.tails, SX.NotAgg, SX.evLookup, SX.evConvH, SX.evPtrEq, SX.isCells, SX.thaw, SX.frz, SX.fixB, SX.rootIx, SX.Froz, SX.frzStep, SX.fork, Go.Value.cells, Go.undef, cfg5, hF]
    refine ⟨by (unfold SX.Ob; first | trivial | omega | ((try simp only [SX.inK]); (try simp [SX.den, SX.IsU8, SX.AllP, *]); (try omega))), ?_⟩
    intro a5 w5 hr5 _
    exact post_retn (end1 hr5 rfl rfl ⟨rfl, hr5.keeps.toBelow⟩).1
  have hG100 : G.length ≤ 100 := hF.2.1
  refine seg cfg5_ok mixed PanicFree.body 1000 [false] [] h4 (by first | trivial | exact HpRep.nil | assumption) (by kernel_rfl) fun s4 hs4 => ?_
  simp (maxSteps := 10000000) [SX.vc, SX.stop, SX.contS, SX.contB, SX.contW, SX.contR, SX.contD, SX.sxStep, SX.stepPure, SX.stepNew, SX.stepStore, SX.stepKeep, SX.guardIx, SX.evOp, SX.opd, SX.opds, SX.optOpd, SX.look, SX.putS, SX.gobs, SX.AllP, SX.leave, SX.lookC, SX.lookB, SX.lookT, SX.lookN, SX.findK, SX.evBuiltin, SX.ints, SX.foldI, SX.evBin, SX.evInt, SX.evStr, SX.evEq, SX.arith, SX.evLoad, SX.shapeUp, SX.evFieldAddr, SX.evField, SX.evIndexAddr, SX.evIndex, SX.evFill, SX.evBuild, SX.szs, SX.cellsV, SX.evNew, SX.evStore, SX.spliceL, SX.SV.cells, SX.evConv, SX.evSlice, SX.bnd, SX.evNil, SX.evUn, SX.evPick, SX.pickOpd, SX.popTo, SX.cnd, SX.env0, SX.TD.isAgg, SX.TD.isIface, SX.tails, SX.NotAgg, SX.evLookup, SX.evConvH, SX.evPtrEq, SX.isCells, SX.thaw, SX.frz, SX.fixB, SX.rootIx, SX.Froz, SX.frzStep, SX.fork, Go.Value.cells, Go.undef, cfg5, hF]
  refine ⟨by (unfold SX.Ob; first | trivial | omega | ((try simp only [SX.inK]); (try simp [SX.den, SX.IsU8, SX.AllP, *]); (try omega))), ?_⟩
  intro a5 w5 hr5 _
  have hs4 : w.heap.size ≤ s4 := by
    rcases hr5.all.1.2.1 rfl with h | h
    · exact h
    · cases h
  refine post_loop (OnLoop w G (.slice ad G.length cp) s4) G.length ⟨0, tab0, none, 0, rfl, by omega, by decide, by decide, by decide, by decide, (OwS.nil (d := lse0) (P := fun x => x ≠ s4)).rd, hr5.re (by simp [envTo, SX.look, den, tab0]) hr5.all rfl rfl⟩ ?_
  rintro m a6 w6 ⟨k, T, adT, cpT, rfl, hk, hC, hTl, hTe, hTn, hT6, hr6⟩
  have hA6 := hr6.all.1
  have hs46 := SO.rep_lt hA6.1
  by_cases hlt : k < G.length
  rotate_left
  · obtain rfl : k = G.length := by omega
    refine seg cfg5_ok mixed PanicFree.body 1000 [false] [] hr6 (by first | trivial | exact HpRep.nil | assumption) (by kernel_rfl) fun s_ hs_ => ?_
    simp (maxSteps := 10000000) [SX.vc, SX.stop, SX.contS, SX.contB, SX.contW, SX.contR, SX.contD, SX.sxStep, SX.stepPure, SX.stepNew, SX.stepStore, SX.stepKeep, SX.guardIx, SX.evOp, SX.opd, SX.opds, SX.optOpd, SX.look, SX.putS, SX.gobs, SX.AllP, SX.leave, SX.lookC, SX.lookB, SX.lookT, SX.lookN, SX.findK, SX.evBuiltin, SX.ints, SX.foldI, SX.evBin, SX.evInt, SX.evStr, SX.evEq, SX.arith, SX.evLoad, SX.shapeUp, SX.evFieldAddr, SX.evField, SX.evIndexAddr, SX.evIndex, SX.evFill, SX.evBuild, SX.szs, SX.cellsV, SX.evNew, SX.evStore, SX.spliceL, SX.SV.cells, SX.evConv, SX.evSlice, SX.bnd, SX.evNil, SX.evUn, SX.evPick, SX.pickOpd, SX.popTo, SX.cnd, SX.env0, SX.TD.isAgg, SX.TD.isIface, SX.tails, SX.NotAgg, SX.evLookup, SX.evConvH, SX.evPtrEq, SX.isCells, SX.thaw, SX.frz, SX.fixB, SX.rootIx, SX.Froz, SX.frzStep, SX.fork, Go.Value.cells, Go.undef, cfg5]
    refine ⟨by (unfold SX.Ob; first | trivial | omega | ((try simp only [SX.inK]); (try simp [SX.den, SX.IsU8, SX.AllP, *]); (try omega))), ?_⟩
    intro a7 w7 hr7 _
    exact post_retn (end1 hr7 rfl rfl ⟨rfl, hr7.keeps.toBelow⟩).1
  obtain ⟨b, o0, cap, u, fz, hP, hv, hrep⟩ := hG.opn hlt
  cases hv
  have hbw := SO.rep_lt hrep
  have hrep6 := SO.rep_same hrep (hr6.keeps.toBelow.block _ hbw)
  obtain ⟨o, ho⟩ : ∃ o, nth opr0 G k = o := ⟨_, rfl⟩
  have h7 := (hr6.top 20 (.sl 1 b o0 0 G.length cp 5) rfl (by simp [den])).see [(s4, true, .cells (tabS T (.slice adT T.L.length cpT)) 24), (b, false, .arr o0 G.length (fun j => oprC (nth opr0 G j)) 5 u fz)] ⟨⟨hA6.1, hA6.2.1, by simp; omega⟩, HpAll.one hrep6⟩
  by_cases hbig : o.d = 0 ∧ 1152921504606846976 < o.a
  · obtain ⟨hd0, hbg⟩ := hbig
    refine seg cfg5_ok mixed PanicFree.body 1000 [true, true] [(29, true)] h7 (by first | trivial | exact HpRep.nil | assumption) (by kernel_rfl) fun s_ hs_ => ?_
    simp (maxSteps := 10000000) [SX.vc, SX.stop, SX.contS, SX.contB, SX.contW, SX.contR, SX.contD, SX.sxStep, SX.stepPure, SX.stepNew, SX.stepStore, SX.stepKeep, SX.guardIx, SX.evOp, SX.opd, SX.opds, SX.optOpd, SX.look, SX.putS, SX.gobs, SX.AllP, SX.leave, SX.lookC, SX.lookB, SX.lookT, SX.lookN, SX.findK, SX.evBuiltin, SX.ints, SX.foldI, SX.evBin, SX.evInt, SX.evStr, SX.evEq, SX.arith, SX.evLoad, SX.shapeUp, SX.evFieldAddr, SX.evField, SX.evIndexAddr, SX.evIndex, SX.evFill, SX.evBuild, SX.szs, SX.cellsV, SX.evNew, SX.evStore, SX.spliceL, SX.SV.cells, SX.evConv, SX.evSlice, SX.bnd, SX.evNil, SX.evUn, SX.evPick, SX.pickOpd, SX.popTo, SX.cnd, SX.env0, SX.TD.isAgg, SX.TD.isIface, SX.tails, SX.NotAgg, SX.evLookup, SX.evConvH, SX.evPtrEq, SX.isCells, SX.thaw, SX.frz, SX.fixB, SX.rootIx, SX.Froz, SX.frzStep, SX.fork, Go.Value.cells, Go.undef, cfg5, oprC, ho, hd0, hbg]
    refine ⟨by (unfold SX.Ob; first | trivial | omega | ((try simp only [SX.inK]); (try simp [SX.den, SX.IsU8, SX.AllP, *]); (try omega))), ?_⟩
    intro a8 w8 hr8 _
    exact post_retn (end1 hr8 rfl rfl ⟨rfl, hr8.keeps.toBelow⟩).1
  by_cases hd0 : o.d = 0
  · obtain ⟨od, oa, ob, oc, ox⟩ := o
    simp only at hd0
    subst hd0
    have hbg : ¬ 1152921504606846976 < oa := fun h => hbig ⟨rfl, h⟩
    refine seg cfg5_ok mixed PanicFree.body 1000 [true, false] [(29, true)] h7.rebase (by first | trivial | exact HpRep.nil | assumption) (by kernel_rfl) fun s7 hs7 => ?_
    simp (maxSteps := 10000000) [SX.vc, SX.stop, SX.contS, SX.contB, SX.contW, SX.contR, SX.contD, SX.sxStep, SX.stepPure, SX.stepNew, SX.stepStore, SX.stepKeep, SX.guardIx, SX.evOp, SX.opd, SX.opds, SX.optOpd, SX.look, SX.putS, SX.gobs, SX.AllP, SX.leave, SX.lookC, SX.lookB, SX.lookT, SX.lookN, SX.findK, SX.evBuiltin, SX.ints, SX.foldI, SX.evBin, SX.evInt, SX.evStr, SX.evEq, SX.arith, SX.evLoad, SX.shapeUp, SX.evFieldAddr, SX.evField, SX.evIndexAddr, SX.evIndex, SX.evFill, SX.evBuild, SX.szs, SX.cellsV, SX.evNew, SX.evStore, SX.spliceL, SX.SV.cells, SX.evConv, SX.evSlice, SX.bnd, SX.evNil, SX.evUn, SX.evPick, SX.pickOpd, SX.popTo, SX.cnd, SX.env0, SX.TD.isAgg, SX.TD.isIface, SX.tails, SX.NotAgg, SX.evLookup, SX.evConvH, SX.evPtrEq, SX.isCells, SX.thaw, SX.frz, SX.fixB, SX.rootIx, SX.Froz, SX.frzStep, SX.fork, Go.Value.cells, Go.undef, cfg5, oprC, tabS, ho, hbg]
    refine ⟨by (unfold SX.Ob; first | trivial | omega | ((try simp only [SX.inK]); (try simp [SX.den, SX.IsU8, SX.AllP, *]); (try omega))), ?_⟩
    intro a8 w8 hr8' _
    have hr8a := h7.unbase hr8'
    have hA8 := hr8a.all
    have hT8 := hT6.keep hr8'.keeps (by simp [frameAt, mutB])
    have h47 : s4 ≠ s7 := hA8.1.2.2 (s7, true, _) (List.mem_cons_of_mem _ List.mem_cons_self)
    have k7 := SO.rep_lt hA8.2.2.1.1
    have k4 := SO.rep_lt hA8.1.1
    have hr8 := hr8a.see [(s4, true, .cells (tabS T (.slice adT T.L.length cpT)) 24), (b, false, .any), (s7, false, .cells [.v (.int .i64 0), .v (.int .i64 oa), .v (.int .i64 ob), .v (.int .i64 oc), .v (.int .i64 ox)] 46)] ⟨⟨hA8.1.1, hA8.1.2.1, by simp; exact ⟨by omega, h47⟩⟩, ⟨SO.rep_lt hA8.2.1.1, by simp, by simp; exact hA8.2.1.2.2 (s7, true, _) List.mem_cons_self⟩, ⟨hA8.2.2.1.1, by simp, by simp⟩, trivial⟩
    refine post_call 19 [.ag [.v (.int .i64 T.last), .v (.int .i64 T.now), .v (.slice adT T.L.length cpT)], .ag [.v (.int .i64 0), .v (.int .i64 oa), .v (.int .i64 ob), .v (.int .i64 oc), .v (.int .i64 ox)]] hr8 (by first | exact wanted_none rfl | exact wanted_zero (hr8.env.same rfl rfl rfl rfl) rfl (by simp) | exact wanted_zero (hr8.env.same rfl rfl rfl rfl) rfl (by simp [*])) rfl (callable 19 Try.func19) (body_ok w8 _ T ⟨0, oa, ob, oc, ox⟩ hT8 (by omega) (by omega) (by omega)) ?_
    rintro e10 w10 ⟨v10, v10', rfl, hU10, hO10, hb10⟩
    refine ⟨_, rfl, ?_⟩
    have h10 := hr8.ret hb10 38 (.tu [.ag (tabC (bodyT T ⟨0, oa, ob, oc, ox⟩) v10), .v v10', .v (.int .i64 (bodyE T ⟨0, oa, ob, oc, ox⟩))]) rfl _ (hr8.all.below hb10) (by simp) rfl
    have hT10 := hT8.below hb10
    have blen := body_len T ⟨0, oa, ob, oc, ox⟩
    have hU10' := hU10.mono (P' := fun x => x ≠ s4) fun x _ h => by
      rcases h with h | h
      · exact h
      · omega
    obtain ⟨ad10, cp10, rfl⟩ := hU10.slice
    by_cases hE : bodyE T ⟨0, oa, ob, oc, ox⟩ = 0
    rotate_left
    · obtain ⟨adX, cpX, rfl⟩ := hO10.slice
      refine seg cfg5_ok mixed PanicFree.body 1000 [true] [] h10.rebase (by first | trivial | exact HpRep.nil | assumption) (by kernel_rfl) fun s_ hs_ => ?_
      simp (maxSteps := 10000000) [SX.vc, SX.stop, SX.contS, SX.contB, SX.contW, SX.contR, SX.contD, SX.sxStep, SX.stepPure, SX.stepNew, SX.stepStore, SX.stepKeep, SX.guardIx, SX.evOp, SX.opd, SX.opds, SX.optOpd, SX.look, SX.putS, SX.gobs, SX.AllP, SX.leave, SX.lookC, SX.lookB, SX.lookT, SX.lookN, SX.findK, SX.evBuiltin, SX.ints, SX.foldI, SX.evBin, SX.evInt, SX.evStr, SX.evEq, SX.arith, SX.evLoad, SX.shapeUp, SX.evFieldAddr, SX.evField, SX.evIndexAddr, SX.evIndex, SX.evFill, SX.evBuild, SX.szs, SX.cellsV, SX.evNew, SX.evStore, SX.spliceL, SX.SV.cells, SX.evConv, SX.evSlice, SX.bnd, SX.evNil, SX.evUn, SX.evPick, SX.pickOpd, SX.popTo, SX.cnd, SX.env0, SX.TD.isAgg, SX.TD.isIface, SX.tails, SX.NotAgg, SX.evLookup, SX.evConvH, SX.evPtrEq, SX.isCells, SX.thaw, SX.frz, SX.fixB, SX.rootIx, SX.Froz, SX.frzStep, SX.fork, Go.Value.cells, Go.undef, cfg5, tabC, tabS, hE]
      refine ⟨by (unfold SX.Ob; first | trivial | omega | ((try simp only [SX.inK]); (try simp [SX.den, SX.IsU8, SX.AllP, *]); (try omega))), ?_⟩
      intro a11 w11 hr11' _
      have hr11 := h10.unbase hr11'
      exact post_rnd (G.length - (k + 1)) (by omega) ⟨k + 1, T, adT, cpT, rfl, hlt, hC, by omega, by omega, hTn, hT10.keep hr11'.keeps (by simp [frameAt, mutB]), hr11.re (by simp [envTo, SX.look, den]) (hr11.all.take 1) rfl rfl⟩
    obtain ⟨cU, lU, nU, nU2, xU⟩ := body_once hC hE (fun _ => by show oa ≤ _; omega) hTn
    have hlast : (bodyT T ⟨0, oa, ob, oc, ox⟩).last = T.last := by rw [lU]; show T.last + 0 = T.last; omega
    obtain ⟨adX, cpX, rfl⟩ := hO10.slice
    refine seg cfg5_ok mixed PanicFree.body 1000 [false, false] [] h10.rebase (by first | trivial | exact HpRep.nil | assumption) (by kernel_rfl) fun s_ hs_ => ?_
    simp (maxSteps := 10000000) [SX.vc, SX.stop, SX.contS, SX.contB, SX.contW, SX.contR, SX.contD, SX.sxStep, SX.stepPure, SX.stepNew, SX.stepStore, SX.stepKeep, SX.guardIx, SX.evOp, SX.opd, SX.opds, SX.optOpd, SX.look, SX.putS, SX.gobs, SX.AllP, SX.leave, SX.lookC, SX.lookB, SX.lookT, SX.lookN, SX.findK, SX.evBuiltin, SX.ints, SX.foldI, SX.evBin, SX.evInt, SX.evStr, SX.evEq, SX.arith, SX.evLoad, SX.shapeUp, SX.evFieldAddr, SX.evField, SX.evIndexAddr, SX.evIndex, SX.evFill, SX.evBuild, SX.szs, SX.cellsV, SX.evNew, SX.evStore, SX.spliceL, SX.SV.cells, SX.evConv, SX.evSlice, SX.bnd, SX.evNil, SX.evUn, SX.evPick, SX.pickOpd, SX.popTo, SX.cnd, SX.env0, SX.TD.isAgg, SX.TD.isIface, SX.tails, SX.NotAgg, SX.evLookup, SX.evConvH, SX.evPtrEq, SX.isCells, SX.thaw, SX.frz, SX.fixB, SX.rootIx, SX.Froz, SX.frzStep, SX.fork, Go.Value.cells, Go.undef, cfg5, tabC, tabS, hE]
    refine ⟨by (unfold SX.Ob; first | trivial | omega | ((try simp only [SX.inK]); (try simp [SX.den, SX.IsU8, SX.AllP, *]); (try omega))), ?_⟩
    intro a13 w13 hr13' _
    have hr13a := h10.unbase hr13'
    have hr13 := hr13a.see _ (HpAll.imm1 hr13a.all)
    simp only [List.map_cons, List.map_nil] at hr13
    have hcU : chkT (bodyT T ⟨0, oa, ob, oc, ox⟩) = 0 := if_pos cU
    have hnow : ¬ (bodyT T ⟨0, oa, ob, oc, ox⟩).now < T.now := by omega
    have hU13 := hU10'.keep hr13'.keeps (by simp [frameAt, mutB])
    refine post_call 11 [.ag [.v (.int .i64 (bodyT T ⟨0, oa, ob, oc, ox⟩).last), .v (.int .i64 (bodyT T ⟨0, oa, ob, oc, ox⟩).now), .v (.slice ad10 (bodyT T ⟨0, oa, ob, oc, ox⟩).L.length cp10)]] hr13 (by first | exact wanted_none rfl | exact wanted_zero (hr13.env.same rfl rfl rfl rfl) rfl (by simp) | exact wanted_zero (hr13.env.same rfl rfl rfl rfl) rfl (by simp [*])) rfl (callable 11 Try.func11) (rcheck_ok w13 _ (bodyT T ⟨0, oa, ob, oc, ox⟩) hU13 (by omega)) ?_
    rintro e14 w14 ⟨rfl, hb14⟩
    refine ⟨_, rfl, ?_⟩
    have h14 := hr13.ret hb14 89 (.v (.int .i64 (chkT (bodyT T ⟨0, oa, ob, oc, ox⟩)))) rfl _ (hr13.all.below hb14) (by simp) rfl
    have hU14 := hU13.below hb14
    refine seg cfg5_ok mixed PanicFree.body 1000 [false] [(91, false), (97, false)] h14.rebase (by first | trivial | exact HpRep.nil | assumption) (by kernel_rfl) fun s_ hs_ => ?_
    simp (maxSteps := 10000000) [SX.vc, SX.stop, SX.contS, SX.contB, SX.contW, SX.contR, SX.contD, SX.sxStep, SX.stepPure, SX.stepNew, SX.stepStore, SX.stepKeep, SX.guardIx, SX.evOp, SX.opd, SX.opds, SX.optOpd, SX.look, SX.putS, SX.gobs, SX.AllP, SX.leave, SX.lookC, SX.lookB, SX.lookT, SX.lookN, SX.findK, SX.evBuiltin, SX.ints, SX.foldI, SX.evBin, SX.evInt, SX.evStr, SX.evEq, SX.arith, SX.evLoad, SX.shapeUp, SX.evFieldAddr, SX.evField, SX.evIndexAddr, SX.evIndex, SX.evFill, SX.evBuild, SX.szs, SX.cellsV, SX.evNew, SX.evStore, SX.spliceL, SX.SV.cells, SX.evConv, SX.evSlice, SX.bnd, SX.evNil, SX.evUn, SX.evPick, SX.pickOpd, SX.popTo, SX.cnd, SX.env0, SX.TD.isAgg, SX.TD.isIface, SX.tails, SX.NotAgg, SX.evLookup, SX.evConvH, SX.evPtrEq, SX.isCells, SX.thaw, SX.frz, SX.fixB, SX.rootIx, SX.Froz, SX.frzStep, SX.fork, Go.Value.cells, Go.undef, cfg5, hcU, hnow, tabS, hlast]
    refine ⟨by (unfold SX.Ob; first | trivial | omega | ((try simp only [SX.inK]); (try simp [SX.den, SX.IsU8, SX.AllP, *]); (try omega))), ?_⟩
    intro a15 w15 hr15' _
    have hr15 := h14.unbase hr15'
    exact post_rnd (G.length - (k + 1)) (by omega) ⟨k + 1, bodyT T ⟨0, oa, ob, oc, ox⟩, ad10, cp10, rfl, hlt, cU, by omega, by omega, nU2, hU14.keep hr15'.keeps (by simp [frameAt, mutB]), hr15.re (by simp [envTo, SX.look, den, hlast]) (by have h := hr15.all.take 1; simp only [List.take_succ_cons, List.take_zero] at h; simpa only [tabS, hlast] using h) rfl rfl⟩
  · refine seg cfg5_ok mixed PanicFree.body 1000 [true, false] [(29, false)] h7.rebase (by first | trivial | exact HpRep.nil | assumption) (by kernel_rfl) fun s7 hs7 => ?_
    simp (maxSteps := 10000000) [SX.vc, SX.stop, SX.contS, SX.contB, SX.contW, SX.contR, SX.contD, SX.sxStep, SX.stepPure, SX.stepNew, SX.stepStore, SX.stepKeep, SX.guardIx, SX.evOp, SX.opd, SX.opds, SX.optOpd, SX.look, SX.putS, SX.gobs, SX.AllP, SX.leave, SX.lookC, SX.lookB, SX.lookT, SX.lookN, SX.findK, SX.evBuiltin, SX.ints, SX.foldI, SX.evBin, SX.evInt, SX.evStr, SX.evEq, SX.arith, SX.evLoad, SX.shapeUp, SX.evFieldAddr, SX.evField, SX.evIndexAddr, SX.evIndex, SX.evFill, SX.evBuild, SX.szs, SX.cellsV, SX.evNew, SX.evStore, SX.spliceL, SX.SV.cells, SX.evConv, SX.evSlice, SX.bnd, SX.evNil, SX.evUn, SX.evPick, SX.pickOpd, SX.popTo, SX.cnd, SX.env0, SX.TD.isAgg, SX.TD.isIface, SX.tails, SX.NotAgg, SX.evLookup, SX.evConvH, SX.evPtrEq, SX.isCells, SX.thaw, SX.frz, SX.fixB, SX.rootIx, SX.Froz, SX.frzStep, SX.fork, Go.Value.cells, Go.undef, cfg5, oprC, tabS, ho, hd0]
    refine ⟨by (unfold SX.Ob; first | trivial | omega | ((try simp only [SX.inK]); (try simp [SX.den, SX.IsU8, SX.AllP, *]); (try omega))), ?_⟩
    intro a8 w8 hr8' _
    have hr8a := h7.unbase hr8'
    have hA8 := hr8a.all
    have hT8 := hT6.keep hr8'.keeps (by simp [frameAt, mutB])
    have h47 : s4 ≠ s7 := hA8.1.2.2 (s7, true, _) (List.mem_cons_of_mem _ List.mem_cons_self)
    have k7 := SO.rep_lt hA8.2.2.1.1
    have k4 := SO.rep_lt hA8.1.1
    have hr8 := hr8a.see [(s4, true, .cells (tabS T (.slice adT T.L.length cpT)) 24), (b, false, .any), (s7, false, .cells [.v (.int .i64 o.d), .v (.int .i64 (o).a), .v (.int .i64 (o).b), .v (.int .i64 (o).c), .v (.int .i64 (o).x)] 46)] ⟨⟨hA8.1.1, hA8.1.2.1, by simp; exact ⟨by omega, h47⟩⟩, ⟨SO.rep_lt hA8.2.1.1, by simp, by simp; exact hA8.2.1.2.2 (s7, true, _) List.mem_cons_self⟩, ⟨hA8.2.2.1.1, by simp, by simp⟩, trivial⟩
    refine post_call 19 [.ag [.v (.int .i64 T.last), .v (.int .i64 T.now), .v (.slice adT T.L.length cpT)], .ag [.v (.int .i64 o.d), .v (.int .i64 (o).a), .v (.int .i64 (o).b), .v (.int .i64 (o).c), .v (.int .i64 (o).x)]] hr8 (by first | exact wanted_none rfl | exact wanted_zero (hr8.env.same rfl rfl rfl rfl) rfl (by simp) | exact wanted_zero (hr8.env.same rfl rfl rfl rfl) rfl (by simp [*])) rfl (callable 19 Try.func19) (body_ok w8 _ T o hT8 (by omega) (by omega) (by omega)) ?_
    rintro e10 w10 ⟨v10, v10', rfl, hU10, hO10, hb10⟩
    refine ⟨_, rfl, ?_⟩
    have h10 := hr8.ret hb10 38 (.tu [.ag (tabC (bodyT T o) v10), .v v10', .v (.int .i64 (bodyE T o))]) rfl _ (hr8.all.below hb10) (by simp) rfl
    have hT10 := hT8.below hb10
    have blen := body_len T o
    have hU10' := hU10.mono (P' := fun x => x ≠ s4) fun x _ h => by
      rcases h with h | h
      · exact h
      · omega
    obtain ⟨ad10, cp10, rfl⟩ := hU10.slice
    by_cases hE : bodyE T o = 0
    rotate_left
    · obtain ⟨adX, cpX, rfl⟩ := hO10.slice
      refine seg cfg5_ok mixed PanicFree.body 1000 [true] [] h10.rebase (by first | trivial | exact HpRep.nil | assumption) (by kernel_rfl) fun s_ hs_ => ?_
      simp (maxSteps := 10000000) [SX.vc, SX.stop, SX.contS, SX.contB, SX.contW, SX.contR, SX.contD, SX.sxStep, SX.stepPure, SX.stepNew, SX.stepStore, SX.stepKeep, SX.guardIx, SX.evOp, SX.opd, SX.opds, SX.optOpd, SX.look, SX.putS, SX.gobs, SX.AllP, SX.leave, SX.lookC, SX.lookB, SX.lookT, SX.lookN, SX.findK, SX.evBuiltin, SX.ints, SX.foldI, SX.evBin, SX.evInt, SX.evStr, SX.evEq, SX.arith, SX.evLoad, SX.shapeUp, SX.evFieldAddr, SX.evField, SX.evIndexAddr, SX.evIndex, SX.evFill, SX.evBuild, SX.szs, SX.cellsV, SX.evNew, SX.evStore, SX.spliceL, SX.SV.cells, SX.evConv, SX.evSlice, SX.bnd, SX.evNil, SX.evUn, SX.evPick, SX.pickOpd, SX.popTo, SX.cnd, SX.env0, SX.TD.isAgg, SX.TD.isIface, SX.tails, SX.NotAgg, SX.evLookup, SX.evConvH, SX.evPtrEq, SX.isCells, SX.thaw, SX.frz, SX.fixB, SX.rootIx, SX.Froz, SX.frzStep, SX.fork, Go.Value.cells, Go.undef, cfg5, tabC, tabS, hE]
      refine ⟨by (unfold SX.Ob; first | trivial | omega | ((try simp only [SX.inK]); (try simp [SX.den, SX.IsU8, SX.AllP, *]); (try omega))), ?_⟩
      intro a11 w11 hr11' _
      have hr11 := h10.unbase hr11'
      exact post_rnd (G.length - (k + 1)) (by omega) ⟨k + 1, T, adT, cpT, rfl, hlt, hC, by omega, by omega, hTn, hT10.keep hr11'.keeps (by simp [frameAt, mutB]), hr11.re (by simp [envTo, SX.look, den]) (hr11.all.take 1) rfl rfl⟩
    obtain ⟨cU, lU, nU, nU2, xU⟩ := body_once hC hE (fun h => absurd h hd0) hTn
    by_cases hd1 : o.d = 1
    rotate_left
    · have hlast : (bodyT T o).last = T.last := by rw [lU, if_neg hd1]; omega
      obtain ⟨adX, cpX, rfl⟩ := hO10.slice
      refine seg cfg5_ok mixed PanicFree.body 1000 [false, false] [] h10.rebase (by first | trivial | exact HpRep.nil | assumption) (by kernel_rfl) fun s_ hs_ => ?_
      simp (maxSteps := 10000000) [SX.vc, SX.stop, SX.contS, SX.contB, SX.contW, SX.contR, SX.contD, SX.sxStep, SX.stepPure, SX.stepNew, SX.stepStore, SX.stepKeep, SX.guardIx, SX.evOp, SX.opd, SX.opds, SX.optOpd, SX.look, SX.putS, SX.gobs, SX.AllP, SX.leave, SX.lookC, SX.lookB, SX.lookT, SX.lookN, SX.findK, SX.evBuiltin, SX.ints, SX.foldI, SX.evBin, SX.evInt, SX.evStr, SX.evEq, SX.arith, SX.evLoad, SX.shapeUp, SX.evFieldAddr, SX.evField, SX.evIndexAddr, SX.evIndex, SX.evFill, SX.evBuild, SX.szs, SX.cellsV, SX.evNew, SX.evStore, SX.spliceL, SX.SV.cells, SX.evConv, SX.evSlice, SX.bnd, SX.evNil, SX.evUn, SX.evPick, SX.pickOpd, SX.popTo, SX.cnd, SX.env0, SX.TD.isAgg, SX.TD.isIface, SX.tails, SX.NotAgg, SX.evLookup, SX.evConvH, SX.evPtrEq, SX.isCells, SX.thaw, SX.frz, SX.fixB, SX.rootIx, SX.Froz, SX.frzStep, SX.fork, Go.Value.cells, Go.undef, cfg5, tabC, tabS, hE, hd1]
      refine ⟨by (unfold SX.Ob; first | trivial | omega | ((try simp only [SX.inK]); (try simp [SX.den, SX.IsU8, SX.AllP, *]); (try omega))), ?_⟩
      intro a13 w13 hr13' _
      have hr13a := h10.unbase hr13'
      have hr13 := hr13a.see _ (HpAll.imm1 hr13a.all)
      simp only [List.map_cons, List.map_nil] at hr13
      have hcU : chkT (bodyT T o) = 0 := if_pos cU
      have hnow : ¬ (bodyT T o).now < T.now := by omega
      have hU13 := hU10'.keep hr13'.keeps (by simp [frameAt, mutB])
      refine post_call 11 [.ag [.v (.int .i64 (bodyT T o).last), .v (.int .i64 (bodyT T o).now), .v (.slice ad10 (bodyT T o).L.length cp10)]] hr13 (by first | exact wanted_none rfl | exact wanted_zero (hr13.env.same rfl rfl rfl rfl) rfl (by simp) | exact wanted_zero (hr13.env.same rfl rfl rfl rfl) rfl (by simp [*])) rfl (callable 11 Try.func11) (rcheck_ok w13 _ (bodyT T o) hU13 (by omega)) ?_
      rintro e14 w14 ⟨rfl, hb14⟩
      refine ⟨_, rfl, ?_⟩
      have h14 := hr13.ret hb14 89 (.v (.int .i64 (chkT (bodyT T o)))) rfl _ (hr13.all.below hb14) (by simp) rfl
      have hU14 := hU13.below hb14
      refine seg cfg5_ok mixed PanicFree.body 1000 [false] [(91, false), (97, false)] h14.rebase (by first | trivial | exact HpRep.nil | assumption) (by kernel_rfl) fun s_ hs_ => ?_
      simp (maxSteps := 10000000) [SX.vc, SX.stop, SX.contS, SX.contB, SX.contW, SX.contR, SX.contD, SX.sxStep, SX.stepPure, SX.stepNew, SX.stepStore, SX.stepKeep, SX.guardIx, SX.evOp, SX.opd, SX.opds, SX.optOpd, SX.look, SX.putS, SX.gobs, SX.AllP, SX.leave, SX.lookC, SX.lookB, SX.lookT, SX.lookN, SX.findK, SX.evBuiltin, SX.ints, SX.foldI, SX.evBin, SX.evInt, SX.evStr, SX.evEq, SX.arith, SX.evLoad, SX.shapeUp, SX.evFieldAddr, SX.evField, SX.evIndexAddr, SX.evIndex, SX.evFill, SX.evBuild, SX.szs, SX.cellsV, SX.evNew, SX.evStore, SX.spliceL, SX.SV.cells, SX.evConv, SX.evSlice, SX.bnd, SX.evNil, SX.evUn, SX.evPick, SX.pickOpd, SX.popTo, SX.cnd, SX.env0, SX.TD.isAgg, SX.TD.isIface, SX.tails, SX.NotAgg, SX.evLookup, SX.evConvH, SX.evPtrEq, SX.isCells, SX.thaw, SX.frz, SX.fixB, SX.rootIx, SX.Froz, SX.frzStep, SX.fork, Go.Value.cells, Go.undef, cfg5, hcU, hnow, tabS, hlast]
      refine ⟨by (unfold SX.Ob; first | trivial | omega | ((try simp only [SX.inK]); (try simp [SX.den, SX.IsU8, SX.AllP, *]); (try omega))), ?_⟩
      intro a15 w15 hr15' _
      have hr15 := h14.unbase hr15'
      exact post_rnd (G.length - (k + 1)) (by omega) ⟨k + 1, bodyT T o, ad10, cp10, rfl, hlt, cU, by omega, by omega, nU2, hU14.keep hr15'.keeps (by simp [frameAt, mutB]), hr15.re (by simp [envTo, SX.look, den, hlast]) (by have h := hr15.all.take 1; simp only [List.take_succ_cons, List.take_zero] at h; simpa only [tabS, hlast] using h) rfl rfl⟩
    rw [if_pos hd1] at lU
    obtain ⟨hnH, hX⟩ := xU hd1
    rw [hX] at hO10
    obtain ⟨bX, oX, capX, uX, fzX, hPX, hvX, hrepX⟩ := hO10.opn (show 0 < [(⟨o.a, o.b, T.last + 1, T.now + o.c⟩ : Lse)].length by simp)
    cases hvX
    have hA10 := h10.all
    have hbX4 : s4 ≠ bX := by omega
    have k7' : s7 ≠ bX := by omega
    have kb' : b ≠ bX := by have := SO.rep_lt hrep6; omega
    have h10a := (h10.top 38 (.tu [.ag [.v (.int .i64 (bodyT T o).last), .v (.int .i64 (bodyT T o).now), .v (.slice ad10 (bodyT T o).L.length cp10)], .sl 3 bX oX 0 1 capX 4, .v (.int .i64 (bodyE T o))]) rfl (by simp [den, denL, tabC])).see [(s4, true, .cells (tabS T (.slice adT T.L.length cpT)) 24), (b, false, .any), (s7, false, .cells [.v (.int .i64 o.d), .v (.int .i64 (o).a), .v (.int .i64 (o).b), .v (.int .i64 (o).c), .v (.int .i64 (o).x)] 46), (bX, false, .arr oX 1 (fun j => lseC (nth lse0 [(⟨o.a, o.b, T.last + 1, T.now + o.c⟩ : Lse)] j)) 4 uX fzX)] ⟨⟨hA10.1.1, hA10.1.2.1, by simp; exact ⟨by omega, h47, hbX4⟩⟩, ⟨SO.rep_lt hA10.2.1.1, by simp, by simp; exact ⟨by omega, kb'⟩⟩, ⟨hA10.2.2.1.1, by simp, by simp; exact k7'⟩, ⟨hrepX, by simp, by simp⟩, trivial⟩
    have hle : ¬ T.last + 1 ≤ T.last := by omega
    refine seg cfg5_ok mixed PanicFree.body 1000 [false, true, false] [(50, false), (58, false), (67, false)] h10a.rebase (by first | trivial | exact HpRep.nil | assumption) (by kernel_rfl) fun s_ hs_ => ?_
    simp (maxSteps := 10000000) [SX.vc, SX.stop, SX.contS, SX.contB, SX.contW, SX.contR, SX.contD, SX.sxStep, SX.stepPure, SX.stepNew, SX.stepStore, SX.stepKeep, SX.guardIx, SX.evOp, SX.opd, SX.opds, SX.optOpd, SX.look, SX.putS, SX.gobs, SX.AllP, SX.leave, SX.lookC, SX.lookB, SX.lookT, SX.lookN, SX.findK, SX.evBuiltin, SX.ints, SX.foldI, SX.evBin, SX.evInt, SX.evStr, SX.evEq, SX.arith, SX.evLoad, SX.shapeUp, SX.evFieldAddr, SX.evField, SX.evIndexAddr, SX.evIndex, SX.evFill, SX.evBuild, SX.szs, SX.cellsV, SX.evNew, SX.evStore, SX.spliceL, SX.SV.cells, SX.evConv, SX.evSlice, SX.bnd, SX.evNil, SX.evUn, SX.evPick, SX.pickOpd, SX.popTo, SX.cnd, SX.env0, SX.TD.isAgg, SX.TD.isIface, SX.tails, SX.NotAgg, SX.evLookup, SX.evConvH, SX.evPtrEq, SX.isCells, SX.thaw, SX.frz, SX.fixB, SX.rootIx, SX.Froz, SX.frzStep, SX.fork, Go.Value.cells, Go.undef, cfg5, tabC, tabS, hE, hd1, lseC, nth, hle]
    refine ⟨by (unfold SX.Ob; first | trivial | omega | ((try simp only [SX.inK]); (try simp [SX.den, SX.IsU8, SX.AllP, *]); (try omega))), ?_⟩
    intro a11 w11 hr11' _
    have hr11 := h10a.unbase hr11'
    have hT11 := hT10.keep hr11'.keeps (by simp [frameAt, mutB])
    have hU11 := hU10'.keep hr11'.keeps (by simp [frameAt, mutB])
    have hr11b := hr11.see _ (HpAll.imm1 hr11.all)
    simp only [List.map_cons, List.map_nil] at hr11b
    refine post_call 20 [.ag [.v (.int .i64 T.last), .v (.int .i64 T.now), .v (.slice adT T.L.length cpT)], .v (.int .i64 o.a)] hr11b (by first | exact wanted_none rfl | exact wanted_zero (hr11b.env.same rfl rfl rfl rfl) rfl (by simp) | exact wanted_zero (hr11b.env.same rfl rfl rfl rfl) rfl (by simp [*])) rfl (callable 20 Try.func20) (rHolder_ok w11 _ T o.a hT11 (by omega)) ?_
    rintro e12 w12 ⟨rfl, hb12⟩
    refine ⟨_, rfl, ?_⟩
    have h12 := hr11b.ret hb12 80 (.tu [.ag (lseC (holdX T o.a)), .v (.bool (decide (HasT T o.a)))]) rfl _ (hr11b.all.below hb12) (by simp) rfl
    have hU12 := hU11.below hb12
    refine seg cfg5_ok mixed PanicFree.body 1000 [false] [(50, false), (58, false), (67, false)] h12.rebase (by first | trivial | exact HpRep.nil | assumption) (by kernel_rfl) fun s_ hs_ => ?_
    simp (maxSteps := 10000000) [SX.vc, SX.stop, SX.contS, SX.contB, SX.contW, SX.contR, SX.contD, SX.sxStep, SX.stepPure, SX.stepNew, SX.stepStore, SX.stepKeep, SX.guardIx, SX.evOp, SX.opd, SX.opds, SX.optOpd, SX.look, SX.putS, SX.gobs, SX.AllP, SX.leave, SX.lookC, SX.lookB, SX.lookT, SX.lookN, SX.findK, SX.evBuiltin, SX.ints, SX.foldI, SX.evBin, SX.evInt, SX.evStr, SX.evEq, SX.arith, SX.evLoad, SX.shapeUp, SX.evFieldAddr, SX.evField, SX.evIndexAddr, SX.evIndex, SX.evFill, SX.evBuild, SX.szs, SX.cellsV, SX.evNew, SX.evStore, SX.spliceL, SX.SV.cells, SX.evConv, SX.evSlice, SX.bnd, SX.evNil, SX.evUn, SX.evPick, SX.pickOpd, SX.popTo, SX.cnd, SX.env0, SX.TD.isAgg, SX.TD.isIface, SX.tails, SX.NotAgg, SX.evLookup, SX.evConvH, SX.evPtrEq, SX.isCells, SX.thaw, SX.frz, SX.fixB, SX.rootIx, SX.Froz, SX.frzStep, SX.fork, Go.Value.cells, Go.undef, cfg5, hnH, lseC, nth]
    refine ⟨by (unfold SX.Ob; first | trivial | omega | ((try simp only [SX.inK]); (try simp [SX.den, SX.IsU8, SX.AllP, *]); (try omega))), ?_⟩
    intro a13 w13 hr13' _
    have hr13a := h12.unbase hr13'
    have hr13 := hr13a.see _ (HpAll.imm1 hr13a.all)
    simp only [List.map_cons, List.map_nil] at hr13
    have hcU : chkT (bodyT T o) = 0 := if_pos cU
    have hnow : ¬ (bodyT T o).now < T.now := by omega
    have hU13 := hU12.keep hr13'.keeps (by simp [frameAt, mutB])
    refine post_call 11 [.ag [.v (.int .i64 (bodyT T o).last), .v (.int .i64 (bodyT T o).now), .v (.slice ad10 (bodyT T o).L.length cp10)]] hr13 (by first | exact wanted_none rfl | exact wanted_zero (hr13.env.same rfl rfl rfl rfl) rfl (by simp) | exact wanted_zero (hr13.env.same rfl rfl rfl rfl) rfl (by simp [*])) rfl (callable 11 Try.func11) (rcheck_ok w13 _ (bodyT T o) hU13 (by omega)) ?_
    rintro e14 w14 ⟨rfl, hb14⟩
    refine ⟨_, rfl, ?_⟩
    have h14 := hr13.ret hb14 89 (.v (.int .i64 (chkT (bodyT T o)))) rfl _ (hr13.all.below hb14) (by simp) rfl
    have hU14 := hU13.below hb14
    refine seg cfg5_ok mixed PanicFree.body 1000 [false] [(50, false), (58, false), (67, false), (91, false), (97, false)] h14.rebase (by first | trivial | exact HpRep.nil | assumption) (by kernel_rfl) fun s_ hs_ => ?_
    simp (maxSteps := 10000000) [SX.vc, SX.stop, SX.contS, SX.contB, SX.contW, SX.contR, SX.contD, SX.sxStep, SX.stepPure, SX.stepNew, SX.stepStore, SX.stepKeep, SX.guardIx, SX.evOp, SX.opd, SX.opds, SX.optOpd, SX.look, SX.putS, SX.gobs, SX.AllP, SX.leave, SX.lookC, SX.lookB, SX.lookT, SX.lookN, SX.findK, SX.evBuiltin, SX.ints, SX.foldI, SX.evBin, SX.evInt, SX.evStr, SX.evEq, SX.arith, SX.evLoad, SX.shapeUp, SX.evFieldAddr, SX.evField, SX.evIndexAddr, SX.evIndex, SX.evFill, SX.evBuild, SX.szs, SX.cellsV, SX.evNew, SX.evStore, SX.spliceL, SX.SV.cells, SX.evConv, SX.evSlice, SX.bnd, SX.evNil, SX.evUn, SX.evPick, SX.pickOpd, SX.popTo, SX.cnd, SX.env0, SX.TD.isAgg, SX.TD.isIface, SX.tails, SX.NotAgg, SX.evLookup, SX.evConvH, SX.evPtrEq, SX.isCells, SX.thaw, SX.frz, SX.fixB, SX.rootIx, SX.Froz, SX.frzStep, SX.fork, Go.Value.cells, Go.undef, cfg5, hcU, hnow, tabS, lU]
    refine ⟨by (unfold SX.Ob; first | trivial | omega | ((try simp only [SX.inK]); (try simp [SX.den, SX.IsU8, SX.AllP, *]); (try omega))), ?_⟩
    intro a15 w15 hr15' _
    have hr15 := h14.unbase hr15'
    exact post_rnd (G.length - (k + 1)) (by omega) ⟨k + 1, bodyT T o, ad10, cp10, rfl, hlt, cU, by omega, by omega, nU2, hU14.keep hr15'.keeps (by simp [frameAt, mutB]), hr15.re (by simp [envTo, SX.look, den, lU]) (by have h := hr15.all.take 1; simp only [List.take_succ_cons, List.take_zero] at h; simpa only [tabS, lU] using h) rfl rfl⟩
end Go.Proofs
