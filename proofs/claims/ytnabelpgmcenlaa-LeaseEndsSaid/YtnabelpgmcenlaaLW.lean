/- Leases: LeaseEnds walked. -/
import Derived.Test.YtnabelpgmcenlaaLV
import Derived.Test.YtnabelpgmcenlaaLU
namespace Go.Proofs
set_option linter.unusedVariables false
set_option linter.unusedSimpArgs false
open Go Go.SX Go.RowKit

def EnLoop (w : World) (G : List Opr) (vg : Value) (key : Int) (s6 : Nat) (m : Nat) (a : Act) (w' : World) : Prop :=
  ∃ (k : Nat) (T : Tab) (E : Int) (ad : Option Addr) (cp : Nat), m = G.length - k ∧ k ≤ G.length ∧ ChkT T ∧ (⟨key, 1, 1, E⟩ : Lse) ∈ T.L ∧ T.L.length ≤ k + 1 ∧ T.last ≤ k + 1 ∧ T.now ≤ 1152921504606846976 ∧ RdL (fun x => x ≠ s6) w' (.slice ad T.L.length cp) T.L ∧
    RepX (frame0 w) ⟨[(43, 0, .v (.int .i64 k)), (42, 0, .v (.int .i64 G.length)), (41, 0, .v vg), (9, 0, .v (.int .i64 E)), (7, 0, .ptr 1 (s6 + 1) 0), (6, 0, .ptr 0 s6 0), (5, 0, .v (.bool true)), (4, 0, .v (.bool false)), (1, 0, .v (.int .i64 key))], [(s6, true, .cells (tabS T (.slice ad T.L.length cp)) 24), (s6 + 1, false, .cells [.v (.int .i64 key), .v (.int .i64 1), .v (.int .i64 1), .v (.int .i64 50)] 33)], 0, 0, 144, [], [], []⟩ a w'
def AnyLoop (F : Fr) (X : List Lse) (v : Value) (key : Int) (m : Nat) (a : Act) (w' : World) : Prop :=
  ∃ (q : Nat) (bv : Bool), m = X.length - q ∧ q ≤ X.length ∧ (bv = true ↔ ∃ j, j < q ∧ (nth lse0 X j).k = key) ∧ RepX F ⟨[(83, 0, .v (.int .i64 q)), (82, 0, .v (.int .i64 X.length)), (81, 0, .v v), (17, 0, .v (.bool bv)), (16, 0, .v (.bool false)), (5, 0, .v (.bool true)), (1, 0, .v (.int .i64 key))], [], 0, 0, 144, [], [], []⟩ a w'

set_option maxRecDepth 100000 in
set_option maxHeartbeats 32000000 in
/-- LeaseEnds. -/
theorem ends_ok (w : World) (vg : Value) (G : List Opr) (key : Int) (hG : RdO (fun x => x < w.heap.size) w vg G) (hnG : G.length ≤ 1000000000000000) : Calls Try.prog 6 #[vg, .int .i64 key] w (fun ev w' => ev = .returned (.bool true) ∧ Below w.heap.size w w') := by
  obtain ⟨ad, cp, rfl⟩ := hG.slice
  refine enter (F := frame0 w) Try.func6 rfl [.v (.slice ad G.length cp), .v (.int .i64 key)] [] (by simp [Try.f6, denL, den]) trivial (keeps0 w) fun a hr => ?_
  refine seg cfg6_ok mixed PanicFree.body 1000 [] [] hr (by first | trivial | exact HpRep.nil | assumption) (by kernel_rfl) fun s_ hs_ => ?_
  simp (maxSteps := 10000000) [SX.vc, SX.stop, SX.contS, SX.contB, SX.contW, SX.contR, SX.contD, SX.sxStep, SX.stepPure, SX.stepNew, SX.stepStore, SX.stepKeep, SX.guardIx, SX.evOp, SX.opd, SX.opds, SX.optOpd, SX.look, SX.putS, SX.gobs, SX.AllP, SX.leave, SX.lookC, SX.lookB, SX.lookT, SX.lookN, SX.findK, SX.evBuiltin, SX.ints, SX.foldI, SX.evBin, SX.evInt, SX.evStr, SX.evEq, SX.arith, SX.evLoad, SX.shapeUp, SX.evFieldAddr, SX.evField, SX.evIndexAddr, SX.evIndex, SX.evFill, SX.evBuild, SX.szs, SX.cellsV, SX.evNew, SX.evStore, SX.spliceL, SX.SV.cells, SX.evConv, SX.evSlice, SX.bnd, SX.evNil, SX.evUn, SX.evPick, SX.pickOpd, SX.popTo, SX.cnd, SX.env0, SX.TD.isAgg, SX.TD.isIface, SX.tails, SX.NotAgg, SX.evLookup, SX.evConvH, SX.evPtrEq, SX.isCells, SX.thaw, SX.frz, SX.fixB, SX.rootIx, SX.Froz, SX.frzStep, SX.fork, Go.Value.cells, Go.undef, cfg6, Try.f6]
  refine ⟨by (unfold SX.Ob; first | trivial | omega | ((try simp only [SX.inK]); (try simp [SX.den, SX.IsU8, SX.AllP, *]); (try omega))), ?_⟩
  intro a1 w1 hr1 _
  refine post_call 9 [] hr1 (by first | exact wanted_none rfl | exact wanted_zero (hr1.env.same rfl rfl rfl rfl) rfl (by simp)) rfl (callable 9 Try.func9) (live_ok w1) ?_
  rintro e2' w2 ⟨rfl, hb2⟩
  refine ⟨_, rfl, ?_⟩
  have h2 := hr1.ret hb2 20 (.v (.bool true)) rfl _ (hr1.all.below hb2) (by simp) rfl
  refine seg cfg6_ok mixed PanicFree.body 1000 [] [] h2 (by first | trivial | exact HpRep.nil | assumption) (by kernel_rfl) fun s_ hs_ => ?_
  simp (maxSteps := 10000000) [SX.vc, SX.stop, SX.contS, SX.contB, SX.contW, SX.contR, SX.contD, SX.sxStep, SX.stepPure, SX.stepNew, SX.stepStore, SX.stepKeep, SX.guardIx, SX.evOp, SX.opd, SX.opds, SX.optOpd, SX.look, SX.putS, SX.gobs, SX.AllP, SX.leave, SX.lookC, SX.lookB, SX.lookT, SX.lookN, SX.findK, SX.evBuiltin, SX.ints, SX.foldI, SX.evBin, SX.evInt, SX.evStr, SX.evEq, SX.arith, SX.evLoad, SX.shapeUp, SX.evFieldAddr, SX.evField, SX.evIndexAddr, SX.evIndex, SX.evFill, SX.evBuild, SX.szs, SX.cellsV, SX.evNew, SX.evStore, SX.spliceL, SX.SV.cells, SX.evConv, SX.evSlice, SX.bnd, SX.evNil, SX.evUn, SX.evPick, SX.pickOpd, SX.popTo, SX.cnd, SX.env0, SX.TD.isAgg, SX.TD.isIface, SX.tails, SX.NotAgg, SX.evLookup, SX.evConvH, SX.evPtrEq, SX.isCells, SX.thaw, SX.frz, SX.fixB, SX.rootIx, SX.Froz, SX.frzStep, SX.fork, Go.Value.cells, Go.undef, cfg6]
  refine ⟨by (unfold SX.Ob; first | trivial | omega | ((try simp only [SX.inK]); (try simp [SX.den, SX.IsU8, SX.AllP, *]); (try omega))), ?_⟩
  intro a3 w3 hr3 _
  refine post_call 10 [.ag [.v (.int .i64 0), .v (.int .i64 0), .v (.slice none 0 0)], .v (.slice ad G.length cp)] hr3 (by first | exact wanted_none rfl | exact wanted_zero (hr3.env.same rfl rfl rfl rfl) rfl (by simp)) rfl (callable 10 Try.func10) (few_ok w3 (.slice none 0 0) tab0 ad G.length cp (OwS.nil (d := lse0) (P := fun _ => True)).rd) ?_
  rintro e4 w4 ⟨rfl, hb4⟩
  refine ⟨_, rfl, ?_⟩
  have h4 := hr3.ret hb4 23 (.v (.bool (decide (FewP tab0 G.length)))) rfl _ (hr3.all.below hb4) (by simp) rfl
  by_cases hF : FewP tab0 G.length
  rotate_left
  · refine seg cfg6_ok mixed PanicFree.body 1000 [true] [(25, true)] h4 (by first | trivial | exact HpRep.nil | assumption) (by kernel_rfl) fun s_ hs_ => ?_
    simp (maxSteps := 10000000) [SX.vc, SX.stop, SX.contS, SX.contB, SX.contW, SX.contR, SX.contD, SX.sxStep, SX.stepPure, SX.stepNew, SX.stepStore, SX.stepKeep, SX.guardIx, SX.evOp, SX.opd, SX.opds, SX.optOpd, SX.look, SX.putS, SX.gobs, SX.AllP, SX.leave, SX.lookC, SX.lookB, SX.lookT, SX.lookN, SX.findK, SX.evBuiltin, SX.ints, SX.foldI, SX.evBin, SX.evInt, SX.evStr, SX.evEq, SX.arith, SX.evLoad, SX.shapeUp, SX.evFieldAddr, SX.evField, SX.evIndexAddr, SX.evIndex, SX.evFill, SX.evBuild, SX.szs, SX.cellsV, SX.evNew, SX.evStore, SX.spliceL, SX.SV.cells, SX.evConv, SX.evSlice, SX.bnd, SX.evNil, SX.evUn, SX.evPick, SX.pickOpd, SX.popTo, SX.cnd, SX.env0, SX.TD.isAgg, SX.TD.isIface, SX.tails, SX.NotAgg, SX.evLookup, SX.evConvH, SX.evPtrEq, SX.isCells, SX.thaw, SX.frz, SX.fixB, SX.rootIx, SX.Froz, SX.frzStep, SX.fork, Go.Value.cells, Go.undef, cfg6, hF]
    refine ⟨by (unfold SX.Ob; first | trivial | omega | ((try simp only [SX.inK]); (try simp [SX.den, SX.IsU8, SX.AllP, *]); (try omega))), ?_⟩
    intro a5 w5 hr5 _
    exact post_retn (end1 hr5 rfl rfl ⟨rfl, hr5.keeps.toBelow⟩).1
  have hG100 : G.length ≤ 100 := hF.2.1
  by_cases hkey : key < 0
  · refine seg cfg6_ok mixed PanicFree.body 1000 [true] [(25, false)] h4 (by first | trivial | exact HpRep.nil | assumption) (by kernel_rfl) fun s_ hs_ => ?_
    simp (maxSteps := 10000000) [SX.vc, SX.stop, SX.contS, SX.contB, SX.contW, SX.contR, SX.contD, SX.sxStep, SX.stepPure, SX.stepNew, SX.stepStore, SX.stepKeep, SX.guardIx, SX.evOp, SX.opd, SX.opds, SX.optOpd, SX.look, SX.putS, SX.gobs, SX.AllP, SX.leave, SX.lookC, SX.lookB, SX.lookT, SX.lookN, SX.findK, SX.evBuiltin, SX.ints, SX.foldI, SX.evBin, SX.evInt, SX.evStr, SX.evEq, SX.arith, SX.evLoad, SX.shapeUp, SX.evFieldAddr, SX.evField, SX.evIndexAddr, SX.evIndex, SX.evFill, SX.evBuild, SX.szs, SX.cellsV, SX.evNew, SX.evStore, SX.spliceL, SX.SV.cells, SX.evConv, SX.evSlice, SX.bnd, SX.evNil, SX.evUn, SX.evPick, SX.pickOpd, SX.popTo, SX.cnd, SX.env0, SX.TD.isAgg, SX.TD.isIface, SX.tails, SX.NotAgg, SX.evLookup, SX.evConvH, SX.evPtrEq, SX.isCells, SX.thaw, SX.frz, SX.fixB, SX.rootIx, SX.Froz, SX.frzStep, SX.fork, Go.Value.cells, Go.undef, cfg6, hF, hkey]
    refine ⟨by (unfold SX.Ob; first | trivial | omega | ((try simp only [SX.inK]); (try simp [SX.den, SX.IsU8, SX.AllP, *]); (try omega))), ?_⟩
    intro a5 w5 hr5 _
    exact post_retn (end1 hr5 rfl rfl ⟨rfl, hr5.keeps.toBelow⟩).1
  obtain ⟨gE, gT, gX, gC⟩ := grant_first (key := key) (by omega)
  refine seg cfg6_ok mixed PanicFree.body 1000 [false] [(25, false)] h4 (by first | trivial | exact HpRep.nil | assumption) (by kernel_rfl) fun s_ hs_ => ?_
  simp (maxSteps := 10000000) [SX.vc, SX.stop, SX.contS, SX.contB, SX.contW, SX.contR, SX.contD, SX.sxStep, SX.stepPure, SX.stepNew, SX.stepStore, SX.stepKeep, SX.guardIx, SX.evOp, SX.opd, SX.opds, SX.optOpd, SX.look, SX.putS, SX.gobs, SX.AllP, SX.leave, SX.lookC, SX.lookB, SX.lookT, SX.lookN, SX.findK, SX.evBuiltin, SX.ints, SX.foldI, SX.evBin, SX.evInt, SX.evStr, SX.evEq, SX.arith, SX.evLoad, SX.shapeUp, SX.evFieldAddr, SX.evField, SX.evIndexAddr, SX.evIndex, SX.evFill, SX.evBuild, SX.szs, SX.cellsV, SX.evNew, SX.evStore, SX.spliceL, SX.SV.cells, SX.evConv, SX.evSlice, SX.bnd, SX.evNil, SX.evUn, SX.evPick, SX.pickOpd, SX.popTo, SX.cnd, SX.env0, SX.TD.isAgg, SX.TD.isIface, SX.tails, SX.NotAgg, SX.evLookup, SX.evConvH, SX.evPtrEq, SX.isCells, SX.thaw, SX.frz, SX.fixB, SX.rootIx, SX.Froz, SX.frzStep, SX.fork, Go.Value.cells, Go.undef, cfg6, hF, hkey]
  refine ⟨by (unfold SX.Ob; first | trivial | omega | ((try simp only [SX.inK]); (try simp [SX.den, SX.IsU8, SX.AllP, *]); (try omega))), ?_⟩
  intro a5 w5 hr5 _
  have rg := (Grant_ok w5 (.slice none 0 0) tab0 key 1 50 (OwS.nil (d := lse0) (P := fun _ => True)).rd (by decide) (by decide) (by decide)).mono (R' := fun e w' => ∃ v1, e = .returned (den (.tu [.ag [.v (.int .i64 1), .v (.int .i64 0), .v v1], .ag [.v (.int .i64 key), .v (.int .i64 1), .v (.int .i64 1), .v (.int .i64 50)], .v (.int .i64 0)])) ∧ RdL (fun x => w5.heap.size ≤ x) w' v1 [⟨key, 1, 1, 50⟩] ∧ Below w5.heap.size w5 w') fun e w' ⟨v1, h1, h2, h3⟩ => by
    rw [gE, gT, gX] at h1
    rw [gT] at h2
    exact ⟨v1, h1, h2, h3⟩
  refine post_call 15 [.ag [.v (.int .i64 0), .v (.int .i64 0), .v (.slice none 0 0)], .v (.int .i64 key), .v (.int .i64 1), .v (.int .i64 50)] hr5 (by first | exact wanted_none rfl | exact wanted_zero (hr5.env.same rfl rfl rfl rfl) rfl (by simp)) rfl (callable 15 Try.func15) (rg) ?_
  rintro e6 w6 ⟨v6, rfl, hL6, hb6⟩
  refine ⟨_, rfl, ?_⟩
  have h6 := hr5.ret hb6 33 (.tu [.ag [.v (.int .i64 1), .v (.int .i64 0), .v v6], .ag [.v (.int .i64 key), .v (.int .i64 1), .v (.int .i64 1), .v (.int .i64 50)], .v (.int .i64 0)]) rfl _ (hr5.all.below hb6) (by simp) rfl
  have hL6 := hL6.mono (P' := fun x => x < w6.heap.size) fun x hx _ => hx
  obtain ⟨ad6, cp6, rfl⟩ := hL6.slice
  refine seg cfg6_ok mixed PanicFree.body 1000 [false] [] h6.rebase (by first | trivial | exact HpRep.nil | assumption) (by kernel_rfl) fun s6 hs6 => ?_
  simp (maxSteps := 10000000) [SX.vc, SX.stop, SX.contS, SX.contB, SX.contW, SX.contR, SX.contD, SX.sxStep, SX.stepPure, SX.stepNew, SX.stepStore, SX.stepKeep, SX.guardIx, SX.evOp, SX.opd, SX.opds, SX.optOpd, SX.look, SX.putS, SX.gobs, SX.AllP, SX.leave, SX.lookC, SX.lookB, SX.lookT, SX.lookN, SX.findK, SX.evBuiltin, SX.ints, SX.foldI, SX.evBin, SX.evInt, SX.evStr, SX.evEq, SX.arith, SX.evLoad, SX.shapeUp, SX.evFieldAddr, SX.evField, SX.evIndexAddr, SX.evIndex, SX.evFill, SX.evBuild, SX.szs, SX.cellsV, SX.evNew, SX.evStore, SX.spliceL, SX.SV.cells, SX.evConv, SX.evSlice, SX.bnd, SX.evNil, SX.evUn, SX.evPick, SX.pickOpd, SX.popTo, SX.cnd, SX.env0, SX.TD.isAgg, SX.TD.isIface, SX.tails, SX.NotAgg, SX.evLookup, SX.evConvH, SX.evPtrEq, SX.isCells, SX.thaw, SX.frz, SX.fixB, SX.rootIx, SX.Froz, SX.frzStep, SX.fork, Go.Value.cells, Go.undef, cfg6]
  refine ⟨by (unfold SX.Ob; first | trivial | omega | ((try simp only [SX.inK]); (try simp [SX.den, SX.IsU8, SX.AllP, *]); (try omega))), ?_⟩
  intro a7 w7 hr7' _
  have hr7 := h6.unbase hr7'
  have hs6 : w.heap.size ≤ s6 := by
    rcases hr7.all.1.2.1 rfl with h | h
    · exact h
    · cases h
  have hL7 := (hL6.keep hr7'.keeps (by simp [frameAt, mutB])).mono (P' := fun x => x ≠ s6) fun x hx h hxs => by
    omega
  have hr7b := hr7.see _ (HpAll.imm1 hr7.all)
  simp only [List.map_cons, List.map_nil] at hr7b
  refine post_loop (EnLoop w G (.slice ad G.length cp) key s6) G.length ⟨0, ⟨1, 0, [⟨key, 1, 1, 50⟩]⟩, 50, ad6, cp6, rfl, by omega, gC, List.mem_singleton.2 rfl, Nat.le_refl _, Int.le_refl _, (by decide : (0 : Int) ≤ 1152921504606846976), hL7, hr7b.re (by simp [envTo, SX.look, den]) hr7b.all rfl rfl⟩ ?_
  rintro m a6 w6 ⟨k, T, E, adT, cpT, rfl, hk, hC, hm, hTl, hTe, hTn, hT6, hr6⟩
  have hA6 := hr6.all
  have hs46 := SO.rep_lt hA6.1.1
  by_cases hlt : k < G.length
  rotate_left
  · obtain rfl : k = G.length := by omega
    refine seg cfg6_ok mixed PanicFree.body 1000 [false] [] hr6 (by first | trivial | exact HpRep.nil | assumption) (by kernel_rfl) fun s_ hs_ => ?_
    simp (maxSteps := 10000000) [SX.vc, SX.stop, SX.contS, SX.contB, SX.contW, SX.contR, SX.contD, SX.sxStep, SX.stepPure, SX.stepNew, SX.stepStore, SX.stepKeep, SX.guardIx, SX.evOp, SX.opd, SX.opds, SX.optOpd, SX.look, SX.putS, SX.gobs, SX.AllP, SX.leave, SX.lookC, SX.lookB, SX.lookT, SX.lookN, SX.findK, SX.evBuiltin, SX.ints, SX.foldI, SX.evBin, SX.evInt, SX.evStr, SX.evEq, SX.arith, SX.evLoad, SX.shapeUp, SX.evFieldAddr, SX.evField, SX.evIndexAddr, SX.evIndex, SX.evFill, SX.evBuild, SX.szs, SX.cellsV, SX.evNew, SX.evStore, SX.spliceL, SX.SV.cells, SX.evConv, SX.evSlice, SX.bnd, SX.evNil, SX.evUn, SX.evPick, SX.pickOpd, SX.popTo, SX.cnd, SX.env0, SX.TD.isAgg, SX.TD.isIface, SX.tails, SX.NotAgg, SX.evLookup, SX.evConvH, SX.evPtrEq, SX.isCells, SX.thaw, SX.frz, SX.fixB, SX.rootIx, SX.Froz, SX.frzStep, SX.fork, Go.Value.cells, Go.undef, cfg6]
    refine ⟨by (unfold SX.Ob; first | trivial | omega | ((try simp only [SX.inK]); (try simp [SX.den, SX.IsU8, SX.AllP, *]); (try omega))), ?_⟩
    intro a7 w7 hr7 _
    exact post_retn (end1 hr7 rfl rfl ⟨rfl, hr7.keeps.toBelow⟩).1
  obtain ⟨b, o0, cap, u, fz, hP, hv, hrep⟩ := hG.opn hlt
  cases hv
  have hbw := SO.rep_lt hrep
  have hrep6 := SO.rep_same hrep (hr6.keeps.toBelow.block _ hbw)
  obtain ⟨o, ho⟩ : ∃ o, nth opr0 G k = o := ⟨_, rfl⟩
  have h7 := (hr6.top 41 (.sl 2 b o0 0 G.length cp 5) rfl (by simp [den])).see [(s6, true, .cells (tabS T (.slice adT T.L.length cpT)) 24), (s6 + 1, false, .cells [.v (.int .i64 key), .v (.int .i64 1), .v (.int .i64 1), .v (.int .i64 50)] 33), (b, false, .arr o0 G.length (fun j => oprC (nth opr0 G j)) 5 u fz)] ⟨⟨hA6.1.1, hA6.1.2.1, by simp; omega⟩, ⟨hA6.2.1.1, by simp, by simp; omega⟩, HpAll.one hrep6⟩
  by_cases hbig : o.d = 0 ∧ 1152921504606846976 < o.a
  · obtain ⟨hd0, hbg⟩ := hbig
    refine seg cfg6_ok mixed PanicFree.body 1000 [true, true] [(50, true)] h7 (by first | trivial | exact HpRep.nil | assumption) (by kernel_rfl) fun s_ hs_ => ?_
    simp (maxSteps := 10000000) [SX.vc, SX.stop, SX.contS, SX.contB, SX.contW, SX.contR, SX.contD, SX.sxStep, SX.stepPure, SX.stepNew, SX.stepStore, SX.stepKeep, SX.guardIx, SX.evOp, SX.opd, SX.opds, SX.optOpd, SX.look, SX.putS, SX.gobs, SX.AllP, SX.leave, SX.lookC, SX.lookB, SX.lookT, SX.lookN, SX.findK, SX.evBuiltin, SX.ints, SX.foldI, SX.evBin, SX.evInt, SX.evStr, SX.evEq, SX.arith, SX.evLoad, SX.shapeUp, SX.evFieldAddr, SX.evField, SX.evIndexAddr, SX.evIndex, SX.evFill, SX.evBuild, SX.szs, SX.cellsV, SX.evNew, SX.evStore, SX.spliceL, SX.SV.cells, SX.evConv, SX.evSlice, SX.bnd, SX.evNil, SX.evUn, SX.evPick, SX.pickOpd, SX.popTo, SX.cnd, SX.env0, SX.TD.isAgg, SX.TD.isIface, SX.tails, SX.NotAgg, SX.evLookup, SX.evConvH, SX.evPtrEq, SX.isCells, SX.thaw, SX.frz, SX.fixB, SX.rootIx, SX.Froz, SX.frzStep, SX.fork, Go.Value.cells, Go.undef, cfg6, oprC, ho, hd0, hbg]
    refine ⟨by (unfold SX.Ob; first | trivial | omega | ((try simp only [SX.inK]); (try simp [SX.den, SX.IsU8, SX.AllP, *]); (try omega))), ?_⟩
    intro a8 w8 hr8 _
    exact post_retn (end1 hr8 rfl rfl ⟨rfl, hr8.keeps.toBelow⟩).1
  by_cases hd0 : o.d = 0
  · obtain ⟨od, oa, ob, oc, ox⟩ := o
    simp only at hd0
    subst hd0
    have hbg : ¬ 1152921504606846976 < oa := fun h => hbig ⟨rfl, h⟩
    refine seg cfg6_ok mixed PanicFree.body 1000 [true, false] [(50, true)] h7.rebase (by first | trivial | exact HpRep.nil | assumption) (by kernel_rfl) fun s7 hs7 => ?_
    simp (maxSteps := 10000000) [SX.vc, SX.stop, SX.contS, SX.contB, SX.contW, SX.contR, SX.contD, SX.sxStep, SX.stepPure, SX.stepNew, SX.stepStore, SX.stepKeep, SX.guardIx, SX.evOp, SX.opd, SX.opds, SX.optOpd, SX.look, SX.putS, SX.gobs, SX.AllP, SX.leave, SX.lookC, SX.lookB, SX.lookT, SX.lookN, SX.findK, SX.evBuiltin, SX.ints, SX.foldI, SX.evBin, SX.evInt, SX.evStr, SX.evEq, SX.arith, SX.evLoad, SX.shapeUp, SX.evFieldAddr, SX.evField, SX.evIndexAddr, SX.evIndex, SX.evFill, SX.evBuild, SX.szs, SX.cellsV, SX.evNew, SX.evStore, SX.spliceL, SX.SV.cells, SX.evConv, SX.evSlice, SX.bnd, SX.evNil, SX.evUn, SX.evPick, SX.pickOpd, SX.popTo, SX.cnd, SX.env0, SX.TD.isAgg, SX.TD.isIface, SX.tails, SX.NotAgg, SX.evLookup, SX.evConvH, SX.evPtrEq, SX.isCells, SX.thaw, SX.frz, SX.fixB, SX.rootIx, SX.Froz, SX.frzStep, SX.fork, Go.Value.cells, Go.undef, cfg6, oprC, tabS, ho, hbg]
    refine ⟨by (unfold SX.Ob; first | trivial | omega | ((try simp only [SX.inK]); (try simp [SX.den, SX.IsU8, SX.AllP, *]); (try omega))), ?_⟩
    intro a8 w8 hr8' _
    have hr8a := h7.unbase hr8'
    have hA8 := hr8a.all
    have hT8 := hT6.keep hr8'.keeps (by simp [frameAt, mutB])
    have h47 : s6 ≠ s7 := hA8.1.2.2 (s7, true, _) (List.mem_cons_of_mem _ (List.mem_cons_of_mem _ List.mem_cons_self))
    have h57 : s6 + 1 ≠ s7 := hA8.2.1.2.2 (s7, true, _) (List.mem_cons_of_mem _ List.mem_cons_self)
    have k7 := SO.rep_lt hA8.2.2.2.1.1
    have k4 := SO.rep_lt hA8.2.1.1
    have hb7 : b ≠ s7 := hA8.2.2.1.2.2 (s7, true, _) List.mem_cons_self
    have hr8 := hr8a.see [(s6, true, .cells (tabS T (.slice adT T.L.length cpT)) 24), (s6 + 1, false, .cells [.v (.int .i64 key), .v (.int .i64 1), .v (.int .i64 1), .v (.int .i64 50)] 33), (b, false, .any), (s7, false, .cells [.v (.int .i64 0), .v (.int .i64 oa), .v (.int .i64 ob), .v (.int .i64 oc), .v (.int .i64 ox)] 46)] ⟨⟨hA8.1.1, hA8.1.2.1, by simp; exact ⟨by omega, h47⟩⟩, ⟨hA8.2.1.1, by simp, by simp; exact ⟨by omega, h57⟩⟩, ⟨SO.rep_lt hA8.2.2.1.1, by simp, by simp; exact hb7⟩, ⟨hA8.2.2.2.1.1, by simp, by simp⟩, trivial⟩
    have blen := body_len T ⟨0, oa, ob, oc, ox⟩
    obtain ⟨U, hU⟩ : ∃ U, bodyT T ⟨0, oa, ob, oc, ox⟩ = U := ⟨_, rfl⟩
    obtain ⟨X, hX⟩ : ∃ X, bodyX T ⟨0, oa, ob, oc, ox⟩ = X := ⟨_, rfl⟩
    obtain ⟨Er, hEr⟩ : ∃ Er, bodyE T ⟨0, oa, ob, oc, ox⟩ = Er := ⟨_, rfl⟩
    have bk := (body_ok w8 _ T ⟨0, oa, ob, oc, ox⟩ hT8 (by omega) (by omega) (by omega)).mono (R' := fun e w' => ∃ v1 v2, e = .returned (den (.tu [.ag (tabC U v1), .v v2, .v (.int .i64 Er)])) ∧ RdL (fun x => x ≠ s6 ∨ w8.heap.size ≤ x) w' v1 U.L ∧ RdL (fun x => w8.heap.size ≤ x) w' v2 X ∧ Below w8.heap.size w8 w') fun e w' ⟨v1, v2, h1, h2, h3, h4⟩ => by
      rw [hU, hEr] at h1
      rw [hU] at h2
      rw [hX] at h3
      exact ⟨v1, v2, h1, h2, h3, h4⟩
    refine post_call 19 [.ag [.v (.int .i64 T.last), .v (.int .i64 T.now), .v (.slice adT T.L.length cpT)], .ag [.v (.int .i64 0), .v (.int .i64 oa), .v (.int .i64 ob), .v (.int .i64 oc), .v (.int .i64 ox)]] hr8 (by first | exact wanted_none rfl | exact wanted_zero (hr8.env.same rfl rfl rfl rfl) rfl (by simp)) rfl (callable 19 Try.func19) (bk) ?_
    rintro e10 w10 ⟨v10, v10', rfl, hU10, hO10, hb10⟩
    refine ⟨_, rfl, ?_⟩
    have h10 := hr8.ret hb10 59 (.tu [.ag (tabC U v10), .v v10', .v (.int .i64 Er)]) rfl _ (hr8.all.below hb10) (by simp) rfl
    have hT10 := hT8.below hb10
    have hU10' := hU10.mono (P' := fun x => x ≠ s6) fun x _ h => by
      rcases h with h | h
      · exact h
      · omega
    have hO10' := hO10.mono (P' := fun x => x ≠ s6) fun x _ h => by omega
    obtain ⟨ad10, cp10, rfl⟩ := hU10.slice
    obtain ⟨adX, cpX, rfl⟩ := hO10.slice
    by_cases hE : Er = 0
    rotate_left
    · refine seg cfg6_ok mixed PanicFree.body 1000 [true] [] h10.rebase (by first | trivial | exact HpRep.nil | assumption) (by kernel_rfl) fun s_ hs_ => ?_
      simp (maxSteps := 10000000) [SX.vc, SX.stop, SX.contS, SX.contB, SX.contW, SX.contR, SX.contD, SX.sxStep, SX.stepPure, SX.stepNew, SX.stepStore, SX.stepKeep, SX.guardIx, SX.evOp, SX.opd, SX.opds, SX.optOpd, SX.look, SX.putS, SX.gobs, SX.AllP, SX.leave, SX.lookC, SX.lookB, SX.lookT, SX.lookN, SX.findK, SX.evBuiltin, SX.ints, SX.foldI, SX.evBin, SX.evInt, SX.evStr, SX.evEq, SX.arith, SX.evLoad, SX.shapeUp, SX.evFieldAddr, SX.evField, SX.evIndexAddr, SX.evIndex, SX.evFill, SX.evBuild, SX.szs, SX.cellsV, SX.evNew, SX.evStore, SX.spliceL, SX.SV.cells, SX.evConv, SX.evSlice, SX.bnd, SX.evNil, SX.evUn, SX.evPick, SX.pickOpd, SX.popTo, SX.cnd, SX.env0, SX.TD.isAgg, SX.TD.isIface, SX.tails, SX.NotAgg, SX.evLookup, SX.evConvH, SX.evPtrEq, SX.isCells, SX.thaw, SX.frz, SX.fixB, SX.rootIx, SX.Froz, SX.frzStep, SX.fork, Go.Value.cells, Go.undef, cfg6, tabC, tabS, hE]
      refine ⟨by (unfold SX.Ob; first | trivial | omega | ((try simp only [SX.inK]); (try simp [SX.den, SX.IsU8, SX.AllP, *]); (try omega))), ?_⟩
      intro a11 w11 hr11' _
      have hr11 := h10.unbase hr11'
      exact post_rnd (G.length - (k + 1)) (by omega) ⟨k + 1, T, E, adT, cpT, rfl, hlt, hC, hm, by omega, by omega, hTn, hT10.keep hr11'.keeps (by simp [frameAt, mutB]), hr11.re (by simp [envTo, SX.look, den]) (hr11.all.take 2) rfl rfl⟩
    obtain ⟨cU, lU, nU, nU2, xU⟩ := body_once hC (hEr.trans hE) (fun _ => by show oa ≤ _; omega) hTn
    have lU' : (bodyT T ⟨0, oa, ob, oc, ox⟩).last ≤ T.last + 1 := by rw [lU]; split <;> omega
    obtain ⟨lawA, lawC, lawD⟩ := body_ends hC (hEr.trans hE) hm
    rw [hU] at blen cU lU' nU nU2 lawA lawC lawD
    rw [hX] at lawA
    refine seg cfg6_ok mixed PanicFree.body 1000 [false] [] h10.rebase (by first | trivial | exact HpRep.nil | assumption) (by kernel_rfl) fun s_ hs_ => ?_
    simp (maxSteps := 10000000) [SX.vc, SX.stop, SX.contS, SX.contB, SX.contW, SX.contR, SX.contD, SX.sxStep, SX.stepPure, SX.stepNew, SX.stepStore, SX.stepKeep, SX.guardIx, SX.evOp, SX.opd, SX.opds, SX.optOpd, SX.look, SX.putS, SX.gobs, SX.AllP, SX.leave, SX.lookC, SX.lookB, SX.lookT, SX.lookN, SX.findK, SX.evBuiltin, SX.ints, SX.foldI, SX.evBin, SX.evInt, SX.evStr, SX.evEq, SX.arith, SX.evLoad, SX.shapeUp, SX.evFieldAddr, SX.evField, SX.evIndexAddr, SX.evIndex, SX.evFill, SX.evBuild, SX.szs, SX.cellsV, SX.evNew, SX.evStore, SX.spliceL, SX.SV.cells, SX.evConv, SX.evSlice, SX.bnd, SX.evNil, SX.evUn, SX.evPick, SX.pickOpd, SX.popTo, SX.cnd, SX.env0, SX.TD.isAgg, SX.TD.isIface, SX.tails, SX.NotAgg, SX.evLookup, SX.evConvH, SX.evPtrEq, SX.isCells, SX.thaw, SX.frz, SX.fixB, SX.rootIx, SX.Froz, SX.frzStep, SX.fork, Go.Value.cells, Go.undef, cfg6, tabC, tabS, hE]
    refine ⟨by (unfold SX.Ob; first | trivial | omega | ((try simp only [SX.inK]); (try simp [SX.den, SX.IsU8, SX.AllP, *]); (try omega))), ?_⟩
    intro a11 w11 hr11' _
    have hr11a := h10.unbase hr11'
    have hr11 := hr11a.see _ (HpAll.imm1 hr11a.all)
    simp only [List.map_cons, List.map_nil] at hr11
    have hU11 := hU10'.keep hr11'.keeps (by simp [frameAt, mutB])
    have hO11 := hO10'.keep hr11'.keeps (by simp [frameAt, mutB])
    refine post_call 21 [.ag [.v (.int .i64 U.last), .v (.int .i64 U.now), .v (.slice ad10 U.L.length cp10)], .v (.int .i64 key)] hr11 (by first | exact wanted_none rfl | exact wanted_zero (hr11.env.same rfl rfl rfl rfl) rfl (by simp)) rfl (callable 21 Try.func21) (Holder_ok w11 _ U key hU11 (by omega)) ?_
    rintro e12 w12 ⟨rfl, hb12⟩
    refine ⟨_, rfl, ?_⟩
    have h12 := hr11.ret hb12 68 (.tu [.ag (lseC (holdX U key)), .v (.bool (decide (HasT U key)))]) rfl _ (hr11.all.below hb12) (by simp) rfl
    have hU12 := hU11.below hb12
    have hO12 := hO11.below hb12
    by_cases hEa : E ≤ oa
    · obtain ⟨hnH, jx, hjx, hjk⟩ := lawA rfl hEa
      have hXn : X.length ≤ T.L.length + 1 := hX ▸ body_xlen T ⟨0, oa, ob, oc, ox⟩
      refine seg cfg6_ok mixed PanicFree.body 1000 [true] [(75, true)] h12.rebase (by first | trivial | exact HpRep.nil | assumption) (by kernel_rfl) fun s_ hs_ => ?_
      simp (maxSteps := 10000000) [SX.vc, SX.stop, SX.contS, SX.contB, SX.contW, SX.contR, SX.contD, SX.sxStep, SX.stepPure, SX.stepNew, SX.stepStore, SX.stepKeep, SX.guardIx, SX.evOp, SX.opd, SX.opds, SX.optOpd, SX.look, SX.putS, SX.gobs, SX.AllP, SX.leave, SX.lookC, SX.lookB, SX.lookT, SX.lookN, SX.findK, SX.evBuiltin, SX.ints, SX.foldI, SX.evBin, SX.evInt, SX.evStr, SX.evEq, SX.arith, SX.evLoad, SX.shapeUp, SX.evFieldAddr, SX.evField, SX.evIndexAddr, SX.evIndex, SX.evFill, SX.evBuild, SX.szs, SX.cellsV, SX.evNew, SX.evStore, SX.spliceL, SX.SV.cells, SX.evConv, SX.evSlice, SX.bnd, SX.evNil, SX.evUn, SX.evPick, SX.pickOpd, SX.popTo, SX.cnd, SX.env0, SX.TD.isAgg, SX.TD.isIface, SX.tails, SX.NotAgg, SX.evLookup, SX.evConvH, SX.evPtrEq, SX.isCells, SX.thaw, SX.frz, SX.fixB, SX.rootIx, SX.Froz, SX.frzStep, SX.fork, Go.Value.cells, Go.undef, cfg6, hnH, hEa, lseC]
      refine ⟨by (unfold SX.Ob; first | trivial | omega | ((try simp only [SX.inK]); (try simp [SX.den, SX.IsU8, SX.AllP, *]); (try omega))), ?_⟩
      intro a13 w13 hr13' _
      have hr13a := h12.unbase hr13'
      have hr13 := hr13a.see _ (HpAll.imm hr13a.all)
      simp only [List.map_cons, List.map_nil] at hr13
      have hO13 := hO12.keep hr13'.keeps (by simp [frameAt, mutB])
      refine post_loop (AnyLoop _ X (.slice adX X.length cpX) key) X.length ⟨0, false, rfl, by omega, by simp, hr13.rebase.re (by simp [envTo, SX.look, den]) trivial rfl rfl⟩ ?_
      rintro m a14 w14 ⟨q, bv, rfl, hq, hbv, hr14⟩
      by_cases hqX : q < X.length
      · have hO14 := hO13.keep hr14.keeps (by simp [frameAt, mutB])
        obtain ⟨b', o0', cap', u', fz', hP', hv', hrep''⟩ := hO14.opn hqX
        cases hv'
        obtain ⟨x, hx⟩ : ∃ x, nth lse0 X q = x := ⟨_, rfl⟩
        have h15 := (hr14.top 81 (.sl 0 b' o0' 0 X.length cpX 4) rfl (by simp [den])).see [(b', false, .arr o0' X.length (fun j => lseC (nth lse0 X j)) 4 u' fz')] (HpAll.one hrep'')
        cases bv
        · refine seg cfg6_ok mixed PanicFree.body 1000 [true] [(88, false)] h15 (by first | trivial | exact HpRep.nil | assumption) (by kernel_rfl) fun s_ hs_ => ?_
          simp (maxSteps := 10000000) [SX.vc, SX.stop, SX.contS, SX.contB, SX.contW, SX.contR, SX.contD, SX.sxStep, SX.stepPure, SX.stepNew, SX.stepStore, SX.stepKeep, SX.guardIx, SX.evOp, SX.opd, SX.opds, SX.optOpd, SX.look, SX.putS, SX.gobs, SX.AllP, SX.leave, SX.lookC, SX.lookB, SX.lookT, SX.lookN, SX.findK, SX.evBuiltin, SX.ints, SX.foldI, SX.evBin, SX.evInt, SX.evStr, SX.evEq, SX.arith, SX.evLoad, SX.shapeUp, SX.evFieldAddr, SX.evField, SX.evIndexAddr, SX.evIndex, SX.evFill, SX.evBuild, SX.szs, SX.cellsV, SX.evNew, SX.evStore, SX.spliceL, SX.SV.cells, SX.evConv, SX.evSlice, SX.bnd, SX.evNil, SX.evUn, SX.evPick, SX.pickOpd, SX.popTo, SX.cnd, SX.env0, SX.TD.isAgg, SX.TD.isIface, SX.tails, SX.NotAgg, SX.evLookup, SX.evConvH, SX.evPtrEq, SX.isCells, SX.thaw, SX.frz, SX.fixB, SX.rootIx, SX.Froz, SX.frzStep, SX.fork, Go.Value.cells, Go.undef, cfg6, lseC, hx]
          refine ⟨by (unfold SX.Ob; first | trivial | omega | ((try simp only [SX.inK]); (try simp [SX.den, SX.IsU8, SX.AllP, *]); (try omega))), ?_⟩
          intro a16 w16 hr16 _
          exact post_rnd (X.length - (q + 1)) (by omega) ⟨q + 1, x.k == key, rfl, hqX, (by
            rw [beq_iff_eq]
            constructor
            · intro h
              exact ⟨q, by omega, by rw [hx]; exact h⟩
            · rintro ⟨j, hj, hjk'⟩
              rcases Nat.lt_or_ge j q with h | h
              · exact absurd (hbv.2 ⟨j, h, hjk'⟩) (by simp)
              · obtain rfl : j = q := by omega
                rw [← hx]; exact hjk'), hr16.re (by simp [envTo, SX.look, den]) trivial rfl rfl⟩
        · refine seg cfg6_ok mixed PanicFree.body 1000 [true] [(88, true)] h15 (by first | trivial | exact HpRep.nil | assumption) (by kernel_rfl) fun s_ hs_ => ?_
          simp (maxSteps := 10000000) [SX.vc, SX.stop, SX.contS, SX.contB, SX.contW, SX.contR, SX.contD, SX.sxStep, SX.stepPure, SX.stepNew, SX.stepStore, SX.stepKeep, SX.guardIx, SX.evOp, SX.opd, SX.opds, SX.optOpd, SX.look, SX.putS, SX.gobs, SX.AllP, SX.leave, SX.lookC, SX.lookB, SX.lookT, SX.lookN, SX.findK, SX.evBuiltin, SX.ints, SX.foldI, SX.evBin, SX.evInt, SX.evStr, SX.evEq, SX.arith, SX.evLoad, SX.shapeUp, SX.evFieldAddr, SX.evField, SX.evIndexAddr, SX.evIndex, SX.evFill, SX.evBuild, SX.szs, SX.cellsV, SX.evNew, SX.evStore, SX.spliceL, SX.SV.cells, SX.evConv, SX.evSlice, SX.bnd, SX.evNil, SX.evUn, SX.evPick, SX.pickOpd, SX.popTo, SX.cnd, SX.env0, SX.TD.isAgg, SX.TD.isIface, SX.tails, SX.NotAgg, SX.evLookup, SX.evConvH, SX.evPtrEq, SX.isCells, SX.thaw, SX.frz, SX.fixB, SX.rootIx, SX.Froz, SX.frzStep, SX.fork, Go.Value.cells, Go.undef, cfg6, lseC, hx]
          refine ⟨by (unfold SX.Ob; first | trivial | omega | ((try simp only [SX.inK]); (try simp [SX.den, SX.IsU8, SX.AllP, *]); (try omega))), ?_⟩
          intro a16 w16 hr16 _
          exact post_rnd (X.length - (q + 1)) (by omega) ⟨q + 1, true, rfl, hqX, (by
            obtain ⟨j, hj, hjk'⟩ := hbv.1 rfl
            exact ⟨fun _ => ⟨j, by omega, hjk'⟩, fun _ => rfl⟩), hr16.re (by simp [envTo, SX.look, den]) trivial rfl rfl⟩
      · obtain rfl : q = X.length := by omega
        obtain rfl : bv = true := hbv.2 ⟨jx, hjx, hjk⟩
        refine seg cfg6_ok mixed PanicFree.body 1000 [false] [(96, true), (100, true)] hr14 (by first | trivial | exact HpRep.nil | assumption) (by kernel_rfl) fun s_ hs_ => ?_
        simp (maxSteps := 10000000) [SX.vc, SX.stop, SX.contS, SX.contB, SX.contW, SX.contR, SX.contD, SX.sxStep, SX.stepPure, SX.stepNew, SX.stepStore, SX.stepKeep, SX.guardIx, SX.evOp, SX.opd, SX.opds, SX.optOpd, SX.look, SX.putS, SX.gobs, SX.AllP, SX.leave, SX.lookC, SX.lookB, SX.lookT, SX.lookN, SX.findK, SX.evBuiltin, SX.ints, SX.foldI, SX.evBin, SX.evInt, SX.evStr, SX.evEq, SX.arith, SX.evLoad, SX.shapeUp, SX.evFieldAddr, SX.evField, SX.evIndexAddr, SX.evIndex, SX.evFill, SX.evBuild, SX.szs, SX.cellsV, SX.evNew, SX.evStore, SX.spliceL, SX.SV.cells, SX.evConv, SX.evSlice, SX.bnd, SX.evNil, SX.evUn, SX.evPick, SX.pickOpd, SX.popTo, SX.cnd, SX.env0, SX.TD.isAgg, SX.TD.isIface, SX.tails, SX.NotAgg, SX.evLookup, SX.evConvH, SX.evPtrEq, SX.isCells, SX.thaw, SX.frz, SX.fixB, SX.rootIx, SX.Froz, SX.frzStep, SX.fork, Go.Value.cells, Go.undef, cfg6]
        refine ⟨by (unfold SX.Ob; first | trivial | omega | ((try simp only [SX.inK]); (try simp [SX.den, SX.IsU8, SX.AllP, *]); (try omega))), ?_⟩
        intro a16 w16 hr16' _
        have hr16 := hr13.unbase hr16'
        exact post_retn (end1 hr16 rfl rfl ⟨rfl, hr16.keeps.toBelow⟩).1
    obtain ⟨E', hle, hm'⟩ := lawD (fun h => hEa h.2) (fun h => absurd h.1 (by simp))
    obtain ⟨hH, hX'⟩ := mem_hold cU hm'
    have hE' : ¬ E' < E := by omega
    have hH' : HasT U key := hH
    have hX2 : holdX U key = ⟨key, 1, 1, E'⟩ := hX'
    refine seg cfg6_ok mixed PanicFree.body 1000 [false, false, false] [(75, true), (107, false), (121, false), (128, false), (133, false)] h12.rebase (by first | trivial | exact HpRep.nil | assumption) (by kernel_rfl) fun s_ hs_ => ?_
    simp (maxSteps := 10000000) [SX.vc, SX.stop, SX.contS, SX.contB, SX.contW, SX.contR, SX.contD, SX.sxStep, SX.stepPure, SX.stepNew, SX.stepStore, SX.stepKeep, SX.guardIx, SX.evOp, SX.opd, SX.opds, SX.optOpd, SX.look, SX.putS, SX.gobs, SX.AllP, SX.leave, SX.lookC, SX.lookB, SX.lookT, SX.lookN, SX.findK, SX.evBuiltin, SX.ints, SX.foldI, SX.evBin, SX.evInt, SX.evStr, SX.evEq, SX.arith, SX.evLoad, SX.shapeUp, SX.evFieldAddr, SX.evField, SX.evIndexAddr, SX.evIndex, SX.evFill, SX.evBuild, SX.szs, SX.cellsV, SX.evNew, SX.evStore, SX.spliceL, SX.SV.cells, SX.evConv, SX.evSlice, SX.bnd, SX.evNil, SX.evUn, SX.evPick, SX.pickOpd, SX.popTo, SX.cnd, SX.env0, SX.TD.isAgg, SX.TD.isIface, SX.tails, SX.NotAgg, SX.evLookup, SX.evConvH, SX.evPtrEq, SX.isCells, SX.thaw, SX.frz, SX.fixB, SX.rootIx, SX.Froz, SX.frzStep, SX.fork, Go.Value.cells, Go.undef, cfg6, lseC, hX2, hH', hE', hEa]
    refine ⟨by (unfold SX.Ob; first | trivial | omega | ((try simp only [SX.inK]); (try simp [SX.den, SX.IsU8, SX.AllP, *]); (try omega))), ?_⟩
    intro a15 w15 hr15' _
    have hr15 := h12.unbase hr15'
    exact post_rnd (G.length - (k + 1)) (by omega) ⟨k + 1, U, E', ad10, cp10, rfl, hlt, cU, hm', by omega, by omega, nU2, hU12.keep hr15'.keeps (by simp [frameAt, mutB]), hr15.re (by simp [envTo, SX.look, den]) (by have h := hr15.all.take 2; simp only [List.take_succ_cons, List.take_zero] at h; simpa only [tabS] using h) rfl rfl⟩
  · skip
    refine seg cfg6_ok mixed PanicFree.body 1000 [true, false] [(50, false)] h7.rebase (by first | trivial | exact HpRep.nil | assumption) (by kernel_rfl) fun s7 hs7 => ?_
    simp (maxSteps := 10000000) [SX.vc, SX.stop, SX.contS, SX.contB, SX.contW, SX.contR, SX.contD, SX.sxStep, SX.stepPure, SX.stepNew, SX.stepStore, SX.stepKeep, SX.guardIx, SX.evOp, SX.opd, SX.opds, SX.optOpd, SX.look, SX.putS, SX.gobs, SX.AllP, SX.leave, SX.lookC, SX.lookB, SX.lookT, SX.lookN, SX.findK, SX.evBuiltin, SX.ints, SX.foldI, SX.evBin, SX.evInt, SX.evStr, SX.evEq, SX.arith, SX.evLoad, SX.shapeUp, SX.evFieldAddr, SX.evField, SX.evIndexAddr, SX.evIndex, SX.evFill, SX.evBuild, SX.szs, SX.cellsV, SX.evNew, SX.evStore, SX.spliceL, SX.SV.cells, SX.evConv, SX.evSlice, SX.bnd, SX.evNil, SX.evUn, SX.evPick, SX.pickOpd, SX.popTo, SX.cnd, SX.env0, SX.TD.isAgg, SX.TD.isIface, SX.tails, SX.NotAgg, SX.evLookup, SX.evConvH, SX.evPtrEq, SX.isCells, SX.thaw, SX.frz, SX.fixB, SX.rootIx, SX.Froz, SX.frzStep, SX.fork, Go.Value.cells, Go.undef, cfg6, oprC, tabS, ho, hd0]
    refine ⟨by (unfold SX.Ob; first | trivial | omega | ((try simp only [SX.inK]); (try simp [SX.den, SX.IsU8, SX.AllP, *]); (try omega))), ?_⟩
    intro a8 w8 hr8' _
    have hr8a := h7.unbase hr8'
    have hA8 := hr8a.all
    have hT8 := hT6.keep hr8'.keeps (by simp [frameAt, mutB])
    have h47 : s6 ≠ s7 := hA8.1.2.2 (s7, true, _) (List.mem_cons_of_mem _ (List.mem_cons_of_mem _ List.mem_cons_self))
    have h57 : s6 + 1 ≠ s7 := hA8.2.1.2.2 (s7, true, _) (List.mem_cons_of_mem _ List.mem_cons_self)
    have k7 := SO.rep_lt hA8.2.2.2.1.1
    have k4 := SO.rep_lt hA8.2.1.1
    have hb7 : b ≠ s7 := hA8.2.2.1.2.2 (s7, true, _) List.mem_cons_self
    have hr8 := hr8a.see [(s6, true, .cells (tabS T (.slice adT T.L.length cpT)) 24), (s6 + 1, false, .cells [.v (.int .i64 key), .v (.int .i64 1), .v (.int .i64 1), .v (.int .i64 50)] 33), (b, false, .any), (s7, false, .cells [.v (.int .i64 o.d), .v (.int .i64 (o).a), .v (.int .i64 (o).b), .v (.int .i64 (o).c), .v (.int .i64 (o).x)] 46)] ⟨⟨hA8.1.1, hA8.1.2.1, by simp; exact ⟨by omega, h47⟩⟩, ⟨hA8.2.1.1, by simp, by simp; exact ⟨by omega, h57⟩⟩, ⟨SO.rep_lt hA8.2.2.1.1, by simp, by simp; exact hb7⟩, ⟨hA8.2.2.2.1.1, by simp, by simp⟩, trivial⟩
    have blen := body_len T o
    obtain ⟨U, hU⟩ : ∃ U, bodyT T o = U := ⟨_, rfl⟩
    obtain ⟨X, hX⟩ : ∃ X, bodyX T o = X := ⟨_, rfl⟩
    obtain ⟨Er, hEr⟩ : ∃ Er, bodyE T o = Er := ⟨_, rfl⟩
    have bk := (body_ok w8 _ T o hT8 (by omega) (by omega) (by omega)).mono (R' := fun e w' => ∃ v1 v2, e = .returned (den (.tu [.ag (tabC U v1), .v v2, .v (.int .i64 Er)])) ∧ RdL (fun x => x ≠ s6 ∨ w8.heap.size ≤ x) w' v1 U.L ∧ RdL (fun x => w8.heap.size ≤ x) w' v2 X ∧ Below w8.heap.size w8 w') fun e w' ⟨v1, v2, h1, h2, h3, h4⟩ => by
      rw [hU, hEr] at h1
      rw [hU] at h2
      rw [hX] at h3
      exact ⟨v1, v2, h1, h2, h3, h4⟩
    refine post_call 19 [.ag [.v (.int .i64 T.last), .v (.int .i64 T.now), .v (.slice adT T.L.length cpT)], .ag [.v (.int .i64 o.d), .v (.int .i64 (o).a), .v (.int .i64 (o).b), .v (.int .i64 (o).c), .v (.int .i64 (o).x)]] hr8 (by first | exact wanted_none rfl | exact wanted_zero (hr8.env.same rfl rfl rfl rfl) rfl (by simp)) rfl (callable 19 Try.func19) (bk) ?_
    rintro e10 w10 ⟨v10, v10', rfl, hU10, hO10, hb10⟩
    refine ⟨_, rfl, ?_⟩
    have h10 := hr8.ret hb10 59 (.tu [.ag (tabC U v10), .v v10', .v (.int .i64 Er)]) rfl _ (hr8.all.below hb10) (by simp) rfl
    have hT10 := hT8.below hb10
    have hU10' := hU10.mono (P' := fun x => x ≠ s6) fun x _ h => by
      rcases h with h | h
      · exact h
      · omega
    have hO10' := hO10.mono (P' := fun x => x ≠ s6) fun x _ h => by omega
    obtain ⟨ad10, cp10, rfl⟩ := hU10.slice
    obtain ⟨adX, cpX, rfl⟩ := hO10.slice
    by_cases hE : Er = 0
    rotate_left
    · refine seg cfg6_ok mixed PanicFree.body 1000 [true] [] h10.rebase (by first | trivial | exact HpRep.nil | assumption) (by kernel_rfl) fun s_ hs_ => ?_
      simp (maxSteps := 10000000) [SX.vc, SX.stop, SX.contS, SX.contB, SX.contW, SX.contR, SX.contD, SX.sxStep, SX.stepPure, SX.stepNew, SX.stepStore, SX.stepKeep, SX.guardIx, SX.evOp, SX.opd, SX.opds, SX.optOpd, SX.look, SX.putS, SX.gobs, SX.AllP, SX.leave, SX.lookC, SX.lookB, SX.lookT, SX.lookN, SX.findK, SX.evBuiltin, SX.ints, SX.foldI, SX.evBin, SX.evInt, SX.evStr, SX.evEq, SX.arith, SX.evLoad, SX.shapeUp, SX.evFieldAddr, SX.evField, SX.evIndexAddr, SX.evIndex, SX.evFill, SX.evBuild, SX.szs, SX.cellsV, SX.evNew, SX.evStore, SX.spliceL, SX.SV.cells, SX.evConv, SX.evSlice, SX.bnd, SX.evNil, SX.evUn, SX.evPick, SX.pickOpd, SX.popTo, SX.cnd, SX.env0, SX.TD.isAgg, SX.TD.isIface, SX.tails, SX.NotAgg, SX.evLookup, SX.evConvH, SX.evPtrEq, SX.isCells, SX.thaw, SX.frz, SX.fixB, SX.rootIx, SX.Froz, SX.frzStep, SX.fork, Go.Value.cells, Go.undef, cfg6, tabC, tabS, hE]
      refine ⟨by (unfold SX.Ob; first | trivial | omega | ((try simp only [SX.inK]); (try simp [SX.den, SX.IsU8, SX.AllP, *]); (try omega))), ?_⟩
      intro a11 w11 hr11' _
      have hr11 := h10.unbase hr11'
      exact post_rnd (G.length - (k + 1)) (by omega) ⟨k + 1, T, E, adT, cpT, rfl, hlt, hC, hm, by omega, by omega, hTn, hT10.keep hr11'.keeps (by simp [frameAt, mutB]), hr11.re (by simp [envTo, SX.look, den]) (hr11.all.take 2) rfl rfl⟩
    obtain ⟨cU, lU, nU, nU2, xU⟩ := body_once hC (hEr.trans hE) (fun h => absurd h hd0) hTn
    have lU' : (bodyT T o).last ≤ T.last + 1 := by rw [lU]; split <;> omega
    obtain ⟨lawA, lawC, lawD⟩ := body_ends hC (hEr.trans hE) hm
    rw [hU] at blen cU lU' nU nU2 lawA lawC lawD
    rw [hX] at lawA
    refine seg cfg6_ok mixed PanicFree.body 1000 [false] [] h10.rebase (by first | trivial | exact HpRep.nil | assumption) (by kernel_rfl) fun s_ hs_ => ?_
    simp (maxSteps := 10000000) [SX.vc, SX.stop, SX.contS, SX.contB, SX.contW, SX.contR, SX.contD, SX.sxStep, SX.stepPure, SX.stepNew, SX.stepStore, SX.stepKeep, SX.guardIx, SX.evOp, SX.opd, SX.opds, SX.optOpd, SX.look, SX.putS, SX.gobs, SX.AllP, SX.leave, SX.lookC, SX.lookB, SX.lookT, SX.lookN, SX.findK, SX.evBuiltin, SX.ints, SX.foldI, SX.evBin, SX.evInt, SX.evStr, SX.evEq, SX.arith, SX.evLoad, SX.shapeUp, SX.evFieldAddr, SX.evField, SX.evIndexAddr, SX.evIndex, SX.evFill, SX.evBuild, SX.szs, SX.cellsV, SX.evNew, SX.evStore, SX.spliceL, SX.SV.cells, SX.evConv, SX.evSlice, SX.bnd, SX.evNil, SX.evUn, SX.evPick, SX.pickOpd, SX.popTo, SX.cnd, SX.env0, SX.TD.isAgg, SX.TD.isIface, SX.tails, SX.NotAgg, SX.evLookup, SX.evConvH, SX.evPtrEq, SX.isCells, SX.thaw, SX.frz, SX.fixB, SX.rootIx, SX.Froz, SX.frzStep, SX.fork, Go.Value.cells, Go.undef, cfg6, tabC, tabS, hE]
    refine ⟨by (unfold SX.Ob; first | trivial | omega | ((try simp only [SX.inK]); (try simp [SX.den, SX.IsU8, SX.AllP, *]); (try omega))), ?_⟩
    intro a11 w11 hr11' _
    have hr11a := h10.unbase hr11'
    have hr11 := hr11a.see _ (HpAll.imm1 hr11a.all)
    simp only [List.map_cons, List.map_nil] at hr11
    have hU11 := hU10'.keep hr11'.keeps (by simp [frameAt, mutB])
    have hO11 := hO10'.keep hr11'.keeps (by simp [frameAt, mutB])
    refine post_call 21 [.ag [.v (.int .i64 U.last), .v (.int .i64 U.now), .v (.slice ad10 U.L.length cp10)], .v (.int .i64 key)] hr11 (by first | exact wanted_none rfl | exact wanted_zero (hr11.env.same rfl rfl rfl rfl) rfl (by simp)) rfl (callable 21 Try.func21) (Holder_ok w11 _ U key hU11 (by omega)) ?_
    rintro e12 w12 ⟨rfl, hb12⟩
    refine ⟨_, rfl, ?_⟩
    have h12 := hr11.ret hb12 68 (.tu [.ag (lseC (holdX U key)), .v (.bool (decide (HasT U key)))]) rfl _ (hr11.all.below hb12) (by simp) rfl
    have hU12 := hU11.below hb12
    have hO12 := hO11.below hb12
    by_cases hd3 : o.d = 3
    · by_cases hak : o.a = key
      · have hnH := lawC hd3 hak
        refine seg cfg6_ok mixed PanicFree.body 1000 [false, true] [(75, false), (107, true), (114, true)] h12.rebase (by first | trivial | exact HpRep.nil | assumption) (by kernel_rfl) fun s_ hs_ => ?_
        simp (maxSteps := 10000000) [SX.vc, SX.stop, SX.contS, SX.contB, SX.contW, SX.contR, SX.contD, SX.sxStep, SX.stepPure, SX.stepNew, SX.stepStore, SX.stepKeep, SX.guardIx, SX.evOp, SX.opd, SX.opds, SX.optOpd, SX.look, SX.putS, SX.gobs, SX.AllP, SX.leave, SX.lookC, SX.lookB, SX.lookT, SX.lookN, SX.findK, SX.evBuiltin, SX.ints, SX.foldI, SX.evBin, SX.evInt, SX.evStr, SX.evEq, SX.arith, SX.evLoad, SX.shapeUp, SX.evFieldAddr, SX.evField, SX.evIndexAddr, SX.evIndex, SX.evFill, SX.evBuild, SX.szs, SX.cellsV, SX.evNew, SX.evStore, SX.spliceL, SX.SV.cells, SX.evConv, SX.evSlice, SX.bnd, SX.evNil, SX.evUn, SX.evPick, SX.pickOpd, SX.popTo, SX.cnd, SX.env0, SX.TD.isAgg, SX.TD.isIface, SX.tails, SX.NotAgg, SX.evLookup, SX.evConvH, SX.evPtrEq, SX.isCells, SX.thaw, SX.frz, SX.fixB, SX.rootIx, SX.Froz, SX.frzStep, SX.fork, Go.Value.cells, Go.undef, cfg6, hnH, lseC, hd3, hak]
        refine ⟨by (unfold SX.Ob; first | trivial | omega | ((try simp only [SX.inK]); (try simp [SX.den, SX.IsU8, SX.AllP, *]); (try omega))), ?_⟩
        intro a13 w13 hr13' _
        have hr13 := h12.unbase hr13'
        exact post_retn (end1 hr13 rfl rfl ⟨rfl, hr13.keeps.toBelow⟩).1
      · obtain ⟨E', hle, hm'⟩ := lawD (fun h => hd0 h.1) (fun h => hak h.2)
        obtain ⟨hH, hX'⟩ := mem_hold cU hm'
        have hE' : ¬ E' < E := by omega
        have hH' : HasT U key := hH
        have hX2 : holdX U key = ⟨key, 1, 1, E'⟩ := hX'
        refine seg cfg6_ok mixed PanicFree.body 1000 [false, false, false] [(75, false), (107, true), (121, false), (128, false), (133, false)] h12.rebase (by first | trivial | exact HpRep.nil | assumption) (by kernel_rfl) fun s_ hs_ => ?_
        simp (maxSteps := 10000000) [SX.vc, SX.stop, SX.contS, SX.contB, SX.contW, SX.contR, SX.contD, SX.sxStep, SX.stepPure, SX.stepNew, SX.stepStore, SX.stepKeep, SX.guardIx, SX.evOp, SX.opd, SX.opds, SX.optOpd, SX.look, SX.putS, SX.gobs, SX.AllP, SX.leave, SX.lookC, SX.lookB, SX.lookT, SX.lookN, SX.findK, SX.evBuiltin, SX.ints, SX.foldI, SX.evBin, SX.evInt, SX.evStr, SX.evEq, SX.arith, SX.evLoad, SX.shapeUp, SX.evFieldAddr, SX.evField, SX.evIndexAddr, SX.evIndex, SX.evFill, SX.evBuild, SX.szs, SX.cellsV, SX.evNew, SX.evStore, SX.spliceL, SX.SV.cells, SX.evConv, SX.evSlice, SX.bnd, SX.evNil, SX.evUn, SX.evPick, SX.pickOpd, SX.popTo, SX.cnd, SX.env0, SX.TD.isAgg, SX.TD.isIface, SX.tails, SX.NotAgg, SX.evLookup, SX.evConvH, SX.evPtrEq, SX.isCells, SX.thaw, SX.frz, SX.fixB, SX.rootIx, SX.Froz, SX.frzStep, SX.fork, Go.Value.cells, Go.undef, cfg6, lseC, hX2, hH', hE', hd3, hak]
        refine ⟨by (unfold SX.Ob; first | trivial | omega | ((try simp only [SX.inK]); (try simp [SX.den, SX.IsU8, SX.AllP, *]); (try omega))), ?_⟩
        intro a15 w15 hr15' _
        have hr15 := h12.unbase hr15'
        exact post_rnd (G.length - (k + 1)) (by omega) ⟨k + 1, U, E', ad10, cp10, rfl, hlt, cU, hm', by omega, by omega, nU2, hU12.keep hr15'.keeps (by simp [frameAt, mutB]), hr15.re (by simp [envTo, SX.look, den]) (by have h := hr15.all.take 2; simp only [List.take_succ_cons, List.take_zero] at h; simpa only [tabS] using h) rfl rfl⟩
    obtain ⟨E', hle, hm'⟩ := lawD (fun h => hd0 h.1) (fun h => hd3 h.1)
    obtain ⟨hH, hX'⟩ := mem_hold cU hm'
    have hE' : ¬ E' < E := by omega
    have hH' : HasT U key := hH
    have hX2 : holdX U key = ⟨key, 1, 1, E'⟩ := hX'
    refine seg cfg6_ok mixed PanicFree.body 1000 [false, false, false] [(75, false), (107, false), (121, false), (128, false), (133, false)] h12.rebase (by first | trivial | exact HpRep.nil | assumption) (by kernel_rfl) fun s_ hs_ => ?_
    simp (maxSteps := 10000000) [SX.vc, SX.stop, SX.contS, SX.contB, SX.contW, SX.contR, SX.contD, SX.sxStep, SX.stepPure, SX.stepNew, SX.stepStore, SX.stepKeep, SX.guardIx, SX.evOp, SX.opd, SX.opds, SX.optOpd, SX.look, SX.putS, SX.gobs, SX.AllP, SX.leave, SX.lookC, SX.lookB, SX.lookT, SX.lookN, SX.findK, SX.evBuiltin, SX.ints, SX.foldI, SX.evBin, SX.evInt, SX.evStr, SX.evEq, SX.arith, SX.evLoad, SX.shapeUp, SX.evFieldAddr, SX.evField, SX.evIndexAddr, SX.evIndex, SX.evFill, SX.evBuild, SX.szs, SX.cellsV, SX.evNew, SX.evStore, SX.spliceL, SX.SV.cells, SX.evConv, SX.evSlice, SX.bnd, SX.evNil, SX.evUn, SX.evPick, SX.pickOpd, SX.popTo, SX.cnd, SX.env0, SX.TD.isAgg, SX.TD.isIface, SX.tails, SX.NotAgg, SX.evLookup, SX.evConvH, SX.evPtrEq, SX.isCells, SX.thaw, SX.frz, SX.fixB, SX.rootIx, SX.Froz, SX.frzStep, SX.fork, Go.Value.cells, Go.undef, cfg6, lseC, hX2, hH', hE', hd0, hd3]
    refine ⟨by (unfold SX.Ob; first | trivial | omega | ((try simp only [SX.inK]); (try simp [SX.den, SX.IsU8, SX.AllP, *]); (try omega))), ?_⟩
    intro a15 w15 hr15' _
    have hr15 := h12.unbase hr15'
    exact post_rnd (G.length - (k + 1)) (by omega) ⟨k + 1, U, E', ad10, cp10, rfl, hlt, cU, hm', by omega, by omega, nU2, hU12.keep hr15'.keeps (by simp [frameAt, mutB]), hr15.re (by simp [envTo, SX.look, den]) (by have h := hr15.all.take 2; simp only [List.take_succ_cons, List.take_zero] at h; simpa only [tabS] using h) rfl rfl⟩
end Go.Proofs
