/- The client: the chapter's example. -/
import Derived.Test.YtjkecmgobcppiaaKO
namespace Go.Proofs
set_option linter.unusedVariables false
set_option linter.unusedSimpArgs false
open Go Go.SX Go.RowKit

/-- Messages alike. -/
theorem sameMsg_F {P P' : Nat → Prop} (w : World) (kd fr to id : Int) (act : Act7) (life : Int) (va vd va' vd' : Value) (h : MsgF P w act life va vd) (h' : MsgF P' w act life va' vd') (hd : ∀ x, P x → ¬ P' x) :
    Calls Try.prog 15 (denL [.ag (msgC kd fr to id va vd), .ag (msgC kd fr to id va' vd')]).toArray w (TruePost w) := by
  obtain ⟨⟨b1, o1, N1, c1, u1, z1, p1, rfl, n1, r1⟩, h2⟩ := h
  obtain ⟨⟨b2, o2, N2, c2, u2, z2, p2, rfl, n2, r2⟩, h2'⟩ := h'
  have hne : b1 ≠ b2 := fun e => hd _ p1 (by rw [e]; exact p2)
  rcases h2 with ⟨h4, rfl⟩ | ⟨h4, d1, v1, f1, q1, rfl, s1⟩
  · rcases h2' with ⟨_, rfl⟩ | ⟨h4', _⟩
    · exact sameMsg_nil w kd fr to id 4 b1 o1 N1 c1 b2 o2 N2 c2 u1 u2 z1 z2 _ _ hne n1 n2 (by omega) r1 r2 (fun _ _ => rfl)
    · exact absurd h4' h4
  · rcases h2' with ⟨h4', _⟩ | ⟨_, d2, v2, f2, q2, rfl, s2⟩
    · exact absurd h4 h4'
    · exact sameMsg_byte w kd fr to id 4 b1 o1 N1 c1 b2 o2 N2 c2 u1 u2 z1 z2 _ _ hne n1 n2 (by omega) r1 r2 (fun _ _ => rfl) d1 d2 act.by_ v1 v2 f1 f2 (fun e => hd _ q1 (by rw [e]; exact q2)) s1 s2

def cL0 : Cl := ⟨100, 1, false, 0, ⟨0, 0, 0, 0, 0, 0, 0⟩, 0, 0, .slice none 0 0⟩
def fL (_ : Nat) : Fin11 := ⟨0, ⟨0, 0, 0, 0, 0, 0, 0⟩, 0, .slice none 0 0, 0⟩
def actL : Act7 := ⟨4, 2, 0, 5, 1, 9, 0⟩

def gL (j : Nat) : Int := [0, 3].getD j 0
def cL2 : Cl := ⟨100, 2, true, 1, actL, 3, 2, .slice none 0 0⟩

set_option maxRecDepth 100000 in
set_option maxHeartbeats 8000000 in
theorem live_ok (w : World) : Calls Try.prog 6 (denL []).toArray w (TruePost w) := by
  refine enter (F := frame0 w) Try.func6 rfl [] [] (by simp [Try.f6]) trivial (keeps0 w) fun a hr => ?_
  refine seg cfg6_ok mixed PanicFree.body 1000 [] [] hr (by first | trivial | exact HpRep.nil | assumption) (by kernel_rfl) fun s_ hs_ => ?_
  simp (maxSteps := 10000000) [SX.vc, SX.stop, SX.contS, SX.contB, SX.contW, SX.contR, SX.contD, SX.sxStep, SX.stepPure, SX.stepNew, SX.stepStore, SX.stepKeep, SX.guardIx, SX.evOp, SX.opd, SX.opds, SX.optOpd, SX.look, SX.putS, SX.gobs, SX.AllP, SX.leave, SX.lookC, SX.lookB, SX.lookT, SX.lookN, SX.findK, SX.evBuiltin, SX.ints, SX.foldI, SX.evBin, SX.evInt, SX.evStr, SX.evEq, SX.arith, SX.evLoad, SX.shapeUp, SX.evFieldAddr, SX.evField, SX.evIndexAddr, SX.evIndex, SX.evFill, SX.evBuild, SX.szs, SX.cellsV, SX.evNew, SX.evStore, SX.spliceL, SX.SV.cells, SX.evConv, SX.evSlice, SX.bnd, SX.evNil, SX.evUn, SX.evPick, SX.pickOpd, SX.popTo, SX.cnd, SX.env0, SX.TD.isAgg, SX.TD.isIface, SX.tails, SX.NotAgg, SX.evLookup, SX.evConvH, SX.evPtrEq, SX.isCells, SX.thaw, SX.frz, SX.fixB, SX.rootIx, SX.Froz, SX.frzStep, SX.fork, Go.Value.cells, Go.undef, cfg6, Try.f6]
  refine ⟨by (unfold SX.Ob; first | trivial | omega | ((try simp only [SX.inK]); (try simp [SX.den, SX.IsU8, *]); (try omega))), ?_⟩
  intro a1 w1 hr1 _
  refine post_call 8 [.v (.int .i64 100)] hr1 (wanted_none rfl) rfl (callable 8 Try.func8) (new_ok w1 100 (by omega)) ?_
  rintro e w2 ⟨rfl, hb2⟩
  refine ⟨_, rfl, ?_⟩
  have h2 := hr1.ret hb2 13 (.tu [.ag (clC ⟨100, 1, false, 0, ⟨0, 0, 0, 0, 0, 0, 0⟩, 0, 0, .slice none 0 0⟩), .v (.int .i64 0)]) rfl _ (hr1.all.below hb2) (by simp) rfl
  refine seg cfg6_ok mixed PanicFree.body 6 [] [] h2 (by first | trivial | exact HpRep.nil | assumption) (by kernel_rfl) fun s_ hs_ => ?_
  simp (maxSteps := 10000000) [SX.vc, SX.stop, SX.contS, SX.contB, SX.contW, SX.contR, SX.contD, SX.sxStep, SX.stepPure, SX.stepNew, SX.stepStore, SX.stepKeep, SX.guardIx, SX.evOp, SX.opd, SX.opds, SX.optOpd, SX.look, SX.putS, SX.gobs, SX.AllP, SX.leave, SX.lookC, SX.lookB, SX.lookT, SX.lookN, SX.findK, SX.evBuiltin, SX.ints, SX.foldI, SX.evBin, SX.evInt, SX.evStr, SX.evEq, SX.arith, SX.evLoad, SX.shapeUp, SX.evFieldAddr, SX.evField, SX.evIndexAddr, SX.evIndex, SX.evFill, SX.evBuild, SX.szs, SX.cellsV, SX.evNew, SX.evStore, SX.spliceL, SX.SV.cells, SX.evConv, SX.evSlice, SX.bnd, SX.evNil, SX.evUn, SX.evPick, SX.pickOpd, SX.popTo, SX.cnd, SX.env0, SX.TD.isAgg, SX.TD.isIface, SX.tails, SX.NotAgg, SX.evLookup, SX.evConvH, SX.evPtrEq, SX.isCells, SX.thaw, SX.frz, SX.fixB, SX.rootIx, SX.Froz, SX.frzStep, SX.fork, Go.Value.cells, Go.undef, cfg6, clC]
  refine ⟨by (unfold SX.Ob; first | trivial | omega | ((try simp only [SX.inK]); (try simp [SX.den, SX.IsU8, *]); (try omega))), ?_⟩
  intro a3 w3 hr3 _
  refine seg cfg6_ok mixed PanicFree.body 4 [] [] hr3 (by first | trivial | exact HpRep.nil | assumption) (by kernel_rfl) fun s_ hs_ => ?_
  simp (maxSteps := 10000000) [SX.vc, SX.stop, SX.contS, SX.contB, SX.contW, SX.contR, SX.contD, SX.sxStep, SX.stepPure, SX.stepNew, SX.stepStore, SX.stepKeep, SX.guardIx, SX.evOp, SX.opd, SX.opds, SX.optOpd, SX.look, SX.putS, SX.gobs, SX.AllP, SX.leave, SX.lookC, SX.lookB, SX.lookT, SX.lookN, SX.findK, SX.evBuiltin, SX.ints, SX.foldI, SX.evBin, SX.evInt, SX.evStr, SX.evEq, SX.arith, SX.evLoad, SX.shapeUp, SX.evFieldAddr, SX.evField, SX.evIndexAddr, SX.evIndex, SX.evFill, SX.evBuild, SX.szs, SX.cellsV, SX.evNew, SX.evStore, SX.spliceL, SX.SV.cells, SX.evConv, SX.evSlice, SX.bnd, SX.evNil, SX.evUn, SX.evPick, SX.pickOpd, SX.popTo, SX.cnd, SX.env0, SX.TD.isAgg, SX.TD.isIface, SX.tails, SX.NotAgg, SX.evLookup, SX.evConvH, SX.evPtrEq, SX.isCells, SX.thaw, SX.frz, SX.fixB, SX.rootIx, SX.Froz, SX.frzStep, SX.fork, Go.Value.cells, Go.undef, cfg6]
  refine ⟨by (unfold SX.Ob; first | trivial | omega | ((try simp only [SX.inK]); (try simp [SX.den, SX.IsU8, *]); (try omega))), ?_⟩
  intro a4 w4 hr4 _
  refine seg cfg6_ok mixed PanicFree.body 1000 [] [] hr4 (by first | trivial | exact HpRep.nil | assumption) (by kernel_rfl) fun s_ hs_ => ?_
  simp (maxSteps := 10000000) [SX.vc, SX.stop, SX.contS, SX.contB, SX.contW, SX.contR, SX.contD, SX.sxStep, SX.stepPure, SX.stepNew, SX.stepStore, SX.stepKeep, SX.guardIx, SX.evOp, SX.opd, SX.opds, SX.optOpd, SX.look, SX.putS, SX.gobs, SX.AllP, SX.leave, SX.lookC, SX.lookB, SX.lookT, SX.lookN, SX.findK, SX.evBuiltin, SX.ints, SX.foldI, SX.evBin, SX.evInt, SX.evStr, SX.evEq, SX.arith, SX.evLoad, SX.shapeUp, SX.evFieldAddr, SX.evField, SX.evIndexAddr, SX.evIndex, SX.evFill, SX.evBuild, SX.szs, SX.cellsV, SX.evNew, SX.evStore, SX.spliceL, SX.SV.cells, SX.evConv, SX.evSlice, SX.bnd, SX.evNil, SX.evUn, SX.evPick, SX.pickOpd, SX.popTo, SX.cnd, SX.env0, SX.TD.isAgg, SX.TD.isIface, SX.tails, SX.NotAgg, SX.evLookup, SX.evConvH, SX.evPtrEq, SX.isCells, SX.thaw, SX.frz, SX.fixB, SX.rootIx, SX.Froz, SX.frzStep, SX.fork, Go.Value.cells, Go.undef, cfg6]
  refine ⟨by (unfold SX.Ob; first | trivial | omega | ((try simp only [SX.inK]); (try simp [SX.den, SX.IsU8, *]); (try omega))), ?_⟩
  intro a5 w5 hr5 _
  refine post_call 11 [.ag (clC cL0), .ag (actC actL), .v (.int .i64 3)] hr5 (wanted_none rfl) rfl (callable 11 Try.func11) (begin_ok w5 cL0 actL 3 (fun _ => False) 0 fL (.inl ⟨rfl, rfl⟩) (by omega) rfl ⟨.inl rfl, by decide, by decide, by decide, by decide, by decide⟩ (by unfold inK; decide)) ?_
  rintro e6 w6 ⟨dv, va, vd, rfl, hF6, hM6, hb6⟩
  obtain rfl : dv = .slice none 0 0 := by
    rcases hF6 with ⟨_, h⟩ | ⟨h, _⟩
    · exact h
    · omega
  obtain ⟨⟨xa, xc, rfl⟩, ya, yn, yc, rfl⟩ := hM6.slices
  refine ⟨_, rfl, ?_⟩
  have h6 := hr5.ret hb6 19 (.tu [.ag (clC (begun cL0 actL 3 (.slice none 0 0))), .ag (msgC 1 100 2 1 (.slice xa 4 xc) (.slice ya yn yc)), .v (.int .i64 0)]) rfl _ (hr5.all.below hb6) (by simp) rfl
  refine seg cfg6_ok mixed PanicFree.body 5 [] [] h6.rebase (by first | trivial | exact HpRep.nil | assumption) (by kernel_rfl) fun s_ hs_ => ?_
  simp (maxSteps := 10000000) [SX.vc, SX.stop, SX.contS, SX.contB, SX.contW, SX.contR, SX.contD, SX.sxStep, SX.stepPure, SX.stepNew, SX.stepStore, SX.stepKeep, SX.guardIx, SX.evOp, SX.opd, SX.opds, SX.optOpd, SX.look, SX.putS, SX.gobs, SX.AllP, SX.leave, SX.lookC, SX.lookB, SX.lookT, SX.lookN, SX.findK, SX.evBuiltin, SX.ints, SX.foldI, SX.evBin, SX.evInt, SX.evStr, SX.evEq, SX.arith, SX.evLoad, SX.shapeUp, SX.evFieldAddr, SX.evField, SX.evIndexAddr, SX.evIndex, SX.evFill, SX.evBuild, SX.szs, SX.cellsV, SX.evNew, SX.evStore, SX.spliceL, SX.SV.cells, SX.evConv, SX.evSlice, SX.bnd, SX.evNil, SX.evUn, SX.evPick, SX.pickOpd, SX.popTo, SX.cnd, SX.env0, SX.TD.isAgg, SX.TD.isIface, SX.tails, SX.NotAgg, SX.evLookup, SX.evConvH, SX.evPtrEq, SX.isCells, SX.thaw, SX.frz, SX.fixB, SX.rootIx, SX.Froz, SX.frzStep, SX.fork, Go.Value.cells, Go.undef, cfg6, clC, msgC, begun, cL0, actL]
  refine ⟨by (unfold SX.Ob; first | trivial | omega | ((try simp only [SX.inK]); (try simp [SX.den, SX.IsU8, *]); (try omega))), ?_⟩
  intro a7 w7 hr7 _
  refine seg cfg6_ok mixed PanicFree.body 3 [] [] hr7 (by first | trivial | exact HpRep.nil | assumption) (by kernel_rfl) fun s_ hs_ => ?_
  simp (maxSteps := 10000000) [SX.vc, SX.stop, SX.contS, SX.contB, SX.contW, SX.contR, SX.contD, SX.sxStep, SX.stepPure, SX.stepNew, SX.stepStore, SX.stepKeep, SX.guardIx, SX.evOp, SX.opd, SX.opds, SX.optOpd, SX.look, SX.putS, SX.gobs, SX.AllP, SX.leave, SX.lookC, SX.lookB, SX.lookT, SX.lookN, SX.findK, SX.evBuiltin, SX.ints, SX.foldI, SX.evBin, SX.evInt, SX.evStr, SX.evEq, SX.arith, SX.evLoad, SX.shapeUp, SX.evFieldAddr, SX.evField, SX.evIndexAddr, SX.evIndex, SX.evFill, SX.evBuild, SX.szs, SX.cellsV, SX.evNew, SX.evStore, SX.spliceL, SX.SV.cells, SX.evConv, SX.evSlice, SX.bnd, SX.evNil, SX.evUn, SX.evPick, SX.pickOpd, SX.popTo, SX.cnd, SX.env0, SX.TD.isAgg, SX.TD.isIface, SX.tails, SX.NotAgg, SX.evLookup, SX.evConvH, SX.evPtrEq, SX.isCells, SX.thaw, SX.frz, SX.fixB, SX.rootIx, SX.Froz, SX.frzStep, SX.fork, Go.Value.cells, Go.undef, cfg6]
  refine ⟨by (unfold SX.Ob; first | trivial | omega | ((try simp only [SX.inK]); (try simp [SX.den, SX.IsU8, *]); (try omega))), ?_⟩
  intro a8 w8 hr8 _
  refine seg cfg6_ok mixed PanicFree.body 1000 [] [] hr8 (by first | trivial | exact HpRep.nil | assumption) (by kernel_rfl) fun s_ hs_ => ?_
  simp (maxSteps := 10000000) [SX.vc, SX.stop, SX.contS, SX.contB, SX.contW, SX.contR, SX.contD, SX.sxStep, SX.stepPure, SX.stepNew, SX.stepStore, SX.stepKeep, SX.guardIx, SX.evOp, SX.opd, SX.opds, SX.optOpd, SX.look, SX.putS, SX.gobs, SX.AllP, SX.leave, SX.lookC, SX.lookB, SX.lookT, SX.lookN, SX.findK, SX.evBuiltin, SX.ints, SX.foldI, SX.evBin, SX.evInt, SX.evStr, SX.evEq, SX.arith, SX.evLoad, SX.shapeUp, SX.evFieldAddr, SX.evField, SX.evIndexAddr, SX.evIndex, SX.evFill, SX.evBuild, SX.szs, SX.cellsV, SX.evNew, SX.evStore, SX.spliceL, SX.SV.cells, SX.evConv, SX.evSlice, SX.bnd, SX.evNil, SX.evUn, SX.evPick, SX.pickOpd, SX.popTo, SX.cnd, SX.env0, SX.TD.isAgg, SX.TD.isIface, SX.tails, SX.NotAgg, SX.evLookup, SX.evConvH, SX.evPtrEq, SX.isCells, SX.thaw, SX.frz, SX.fixB, SX.rootIx, SX.Froz, SX.frzStep, SX.fork, Go.Value.cells, Go.undef, cfg6]
  refine ⟨by (unfold SX.Ob; first | trivial | omega | ((try simp only [SX.inK]); (try simp [SX.den, SX.IsU8, *]); (try omega))), ?_⟩
  intro a9 w9 hr9 _
  refine post_call 14 [.ag (clC (begun cL0 actL 3 (.slice none 0 0)))] hr9 (wanted_none rfl) rfl (callable 14 Try.func14) (again_ok w9 (begun cL0 actL 3 (.slice none 0 0)) (fun _ => False) 0 fL rfl (.inl ⟨rfl, rfl⟩) (by omega) (by unfold inK; decide)) ?_
  rintro e10 w10 ⟨dv, va2, vd2, rfl, hF10, hM10, hb10⟩
  obtain rfl : dv = .slice none 0 0 := by
    rcases hF10 with ⟨_, h⟩ | ⟨h, _⟩
    · exact h
    · omega
  obtain ⟨⟨xa2, xc2, rfl⟩, ya2, yn2, yc2, rfl⟩ := hM10.slices
  refine ⟨_, rfl, ?_⟩
  have h10 := hr9.ret hb10 25 (.tu [.ag (clC cL2), .ag (msgC 1 100 2 1 (.slice xa2 4 xc2) (.slice ya2 yn2 yc2)), .v (.int .i64 0)]) rfl _ (hr9.all.below hb10) (by simp) rfl
  have hA9 := hr9.all
  have l91 := SO.rep_lt hA9.1.1
  have l92 := SO.rep_lt hA9.2.1.1
  refine seg cfg6_ok mixed PanicFree.body 5 [] [] h10.rebase (by first | trivial | exact HpRep.nil | assumption) (by kernel_rfl) fun s_ hs_ => ?_
  simp (maxSteps := 10000000) [SX.vc, SX.stop, SX.contS, SX.contB, SX.contW, SX.contR, SX.contD, SX.sxStep, SX.stepPure, SX.stepNew, SX.stepStore, SX.stepKeep, SX.guardIx, SX.evOp, SX.opd, SX.opds, SX.optOpd, SX.look, SX.putS, SX.gobs, SX.AllP, SX.leave, SX.lookC, SX.lookB, SX.lookT, SX.lookN, SX.findK, SX.evBuiltin, SX.ints, SX.foldI, SX.evBin, SX.evInt, SX.evStr, SX.evEq, SX.arith, SX.evLoad, SX.shapeUp, SX.evFieldAddr, SX.evField, SX.evIndexAddr, SX.evIndex, SX.evFill, SX.evBuild, SX.szs, SX.cellsV, SX.evNew, SX.evStore, SX.spliceL, SX.SV.cells, SX.evConv, SX.evSlice, SX.bnd, SX.evNil, SX.evUn, SX.evPick, SX.pickOpd, SX.popTo, SX.cnd, SX.env0, SX.TD.isAgg, SX.TD.isIface, SX.tails, SX.NotAgg, SX.evLookup, SX.evConvH, SX.evPtrEq, SX.isCells, SX.thaw, SX.frz, SX.fixB, SX.rootIx, SX.Froz, SX.frzStep, SX.fork, Go.Value.cells, Go.undef, cfg6, clC, msgC, begun, cL2, actL]
  refine ⟨by (unfold SX.Ob; first | trivial | omega | ((try simp only [SX.inK]); (try simp [SX.den, SX.IsU8, *]); (try omega))), ?_⟩
  intro a11 w11 hr11 _
  refine seg cfg6_ok mixed PanicFree.body 3 [] [] hr11 (by first | trivial | exact HpRep.nil | assumption) (by kernel_rfl) fun s_ hs_ => ?_
  simp (maxSteps := 10000000) [SX.vc, SX.stop, SX.contS, SX.contB, SX.contW, SX.contR, SX.contD, SX.sxStep, SX.stepPure, SX.stepNew, SX.stepStore, SX.stepKeep, SX.guardIx, SX.evOp, SX.opd, SX.opds, SX.optOpd, SX.look, SX.putS, SX.gobs, SX.AllP, SX.leave, SX.lookC, SX.lookB, SX.lookT, SX.lookN, SX.findK, SX.evBuiltin, SX.ints, SX.foldI, SX.evBin, SX.evInt, SX.evStr, SX.evEq, SX.arith, SX.evLoad, SX.shapeUp, SX.evFieldAddr, SX.evField, SX.evIndexAddr, SX.evIndex, SX.evFill, SX.evBuild, SX.szs, SX.cellsV, SX.evNew, SX.evStore, SX.spliceL, SX.SV.cells, SX.evConv, SX.evSlice, SX.bnd, SX.evNil, SX.evUn, SX.evPick, SX.pickOpd, SX.popTo, SX.cnd, SX.env0, SX.TD.isAgg, SX.TD.isIface, SX.tails, SX.NotAgg, SX.evLookup, SX.evConvH, SX.evPtrEq, SX.isCells, SX.thaw, SX.frz, SX.fixB, SX.rootIx, SX.Froz, SX.frzStep, SX.fork, Go.Value.cells, Go.undef, cfg6]
  refine ⟨by (unfold SX.Ob; first | trivial | omega | ((try simp only [SX.inK]); (try simp [SX.den, SX.IsU8, *]); (try omega))), ?_⟩
  intro a12 w12 hr12 _
  refine seg cfg6_ok mixed PanicFree.body 4 [] [] hr12 (by first | trivial | exact HpRep.nil | assumption) (by kernel_rfl) fun s_ hs_ => ?_
  simp (maxSteps := 10000000) [SX.vc, SX.stop, SX.contS, SX.contB, SX.contW, SX.contR, SX.contD, SX.sxStep, SX.stepPure, SX.stepNew, SX.stepStore, SX.stepKeep, SX.guardIx, SX.evOp, SX.opd, SX.opds, SX.optOpd, SX.look, SX.putS, SX.gobs, SX.AllP, SX.leave, SX.lookC, SX.lookB, SX.lookT, SX.lookN, SX.findK, SX.evBuiltin, SX.ints, SX.foldI, SX.evBin, SX.evInt, SX.evStr, SX.evEq, SX.arith, SX.evLoad, SX.shapeUp, SX.evFieldAddr, SX.evField, SX.evIndexAddr, SX.evIndex, SX.evFill, SX.evBuild, SX.szs, SX.cellsV, SX.evNew, SX.evStore, SX.spliceL, SX.SV.cells, SX.evConv, SX.evSlice, SX.bnd, SX.evNil, SX.evUn, SX.evPick, SX.pickOpd, SX.popTo, SX.cnd, SX.env0, SX.TD.isAgg, SX.TD.isIface, SX.tails, SX.NotAgg, SX.evLookup, SX.evConvH, SX.evPtrEq, SX.isCells, SX.thaw, SX.frz, SX.fixB, SX.rootIx, SX.Froz, SX.frzStep, SX.fork, Go.Value.cells, Go.undef, cfg6]
  refine ⟨by (unfold SX.Ob; first | trivial | omega | ((try simp only [SX.inK]); (try simp [SX.den, SX.IsU8, *]); (try omega))), ?_⟩
  intro a13 w13 hr13 _
  obtain ⟨s_13, hs13⟩ : ∃ x, x = s_ := ⟨_, rfl⟩
  subst hs13
  refine seg cfg6_ok mixed PanicFree.body 4 [] [] hr13 (by first | trivial | exact HpRep.nil | assumption) (by kernel_rfl) fun s_ hs_ => ?_
  simp (maxSteps := 10000000) [SX.vc, SX.stop, SX.contS, SX.contB, SX.contW, SX.contR, SX.contD, SX.sxStep, SX.stepPure, SX.stepNew, SX.stepStore, SX.stepKeep, SX.guardIx, SX.evOp, SX.opd, SX.opds, SX.optOpd, SX.look, SX.putS, SX.gobs, SX.AllP, SX.leave, SX.lookC, SX.lookB, SX.lookT, SX.lookN, SX.findK, SX.evBuiltin, SX.ints, SX.foldI, SX.evBin, SX.evInt, SX.evStr, SX.evEq, SX.arith, SX.evLoad, SX.shapeUp, SX.evFieldAddr, SX.evField, SX.evIndexAddr, SX.evIndex, SX.evFill, SX.evBuild, SX.szs, SX.cellsV, SX.evNew, SX.evStore, SX.spliceL, SX.SV.cells, SX.evConv, SX.evSlice, SX.bnd, SX.evNil, SX.evUn, SX.evPick, SX.pickOpd, SX.popTo, SX.cnd, SX.env0, SX.TD.isAgg, SX.TD.isIface, SX.tails, SX.NotAgg, SX.evLookup, SX.evConvH, SX.evPtrEq, SX.isCells, SX.thaw, SX.frz, SX.fixB, SX.rootIx, SX.Froz, SX.frzStep, SX.fork, Go.Value.cells, Go.undef, cfg6]
  refine ⟨by (unfold SX.Ob; first | trivial | omega | ((try simp only [SX.inK]); (try simp [SX.den, SX.IsU8, *]); (try omega))), ?_⟩
  intro a14 w14 hr14 _
  refine seg cfg6_ok mixed PanicFree.body 1000 [] [] hr14 (by first | trivial | exact HpRep.nil | assumption) (by kernel_rfl) fun s_ hs_ => ?_
  simp (maxSteps := 10000000) [SX.vc, SX.stop, SX.contS, SX.contB, SX.contW, SX.contR, SX.contD, SX.sxStep, SX.stepPure, SX.stepNew, SX.stepStore, SX.stepKeep, SX.guardIx, SX.evOp, SX.opd, SX.opds, SX.optOpd, SX.look, SX.putS, SX.gobs, SX.AllP, SX.leave, SX.lookC, SX.lookB, SX.lookT, SX.lookN, SX.findK, SX.evBuiltin, SX.ints, SX.foldI, SX.evBin, SX.evInt, SX.evStr, SX.evEq, SX.arith, SX.evLoad, SX.shapeUp, SX.evFieldAddr, SX.evField, SX.evIndexAddr, SX.evIndex, SX.evFill, SX.evBuild, SX.szs, SX.cellsV, SX.evNew, SX.evStore, SX.spliceL, SX.SV.cells, SX.evConv, SX.evSlice, SX.bnd, SX.evNil, SX.evUn, SX.evPick, SX.pickOpd, SX.popTo, SX.cnd, SX.env0, SX.TD.isAgg, SX.TD.isIface, SX.tails, SX.NotAgg, SX.evLookup, SX.evConvH, SX.evPtrEq, SX.isCells, SX.thaw, SX.frz, SX.fixB, SX.rootIx, SX.Froz, SX.frzStep, SX.fork, Go.Value.cells, Go.undef, cfg6]
  refine ⟨by (unfold SX.Ob; first | trivial | omega | ((try simp only [SX.inK]); (try simp [SX.den, SX.IsU8, *]); (try omega))), ?_⟩
  intro a15 w15 hr15 _
  have hA15 := hr15.all
  have hv15 : Ints w15 (.slice (some ⟨s_13, 0, none⟩) 2 2) 2 gL := .inr ⟨by omega, s_13, 0, 2, 2, 3, (0, 0), rfl, Nat.le_refl _, rep_arr_sub hA15.2.2.2.1.1 (Nat.le_refl _) fun j hj => by
    rcases j with _ | _ | j <;> first | rfl | omega⟩
  have hI : Calls Try.prog 12 (denL [.ag (clC cL2), .ag [.v (.int .i64 2), .v (.int .i64 2), .v (.int .i64 100), .v (.int .i64 1), .sl 3 s_13 0 0 2 2 1, .v (.slice none 0 0)]]).toArray w15 (AccYes w15 cL2 0 fL 0 0 fun _ => 0) :=
    accept_ok w15 cL2 ⟨2, 2, 100, 1, .slice (some ⟨s_13, 0, none⟩) 2 2, .slice none 0 0⟩ (fun _ => False) (fun _ => False) 0 fL 2 gL 0 (fun _ => 0) ⟨rfl, ⟨rfl, rfl, rfl, rfl⟩, rfl, by decide⟩ (.inl ⟨rfl, rfl⟩) (by omega) hv15 (.inl ⟨rfl, _, _, rfl⟩) (by rintro c h; cases h; rfl) (by omega)
  refine post_call 12 [.ag (clC cL2), .ag [.v (.int .i64 2), .v (.int .i64 2), .v (.int .i64 100), .v (.int .i64 1), .sl 3 s_13 0 0 2 2 1, .v (.slice none 0 0)]] hr15 (wanted_none rfl) rfl (callable 12 Try.func12) hI ?_
  rintro e16 w16 ⟨V, vd16, K16, rfl, hK16, hF16, _, hb16⟩
  replace hF16 := hF16.mono (P' := fun x => w15.heap.size ≤ x) fun x _ h => Nat.le_trans hK16 h
  obtain ⟨Va, Vc, rfl⟩ := hF16.slice
  refine ⟨_, rfl, ?_⟩
  have h16 := hr15.ret hb16 34 (.tu [.ag (clC (overCl cL2 (.slice Va 1 Vc))), .v (.bool true)]) rfl _ (hr15.all.below hb16) (by simp) rfl
  refine seg cfg6_ok mixed PanicFree.body 5 [] [] h16.rebase (by first | trivial | exact HpRep.nil | assumption) (by kernel_rfl) fun s_ hs_ => ?_
  simp (maxSteps := 10000000) [SX.vc, SX.stop, SX.contS, SX.contB, SX.contW, SX.contR, SX.contD, SX.sxStep, SX.stepPure, SX.stepNew, SX.stepStore, SX.stepKeep, SX.guardIx, SX.evOp, SX.opd, SX.opds, SX.optOpd, SX.look, SX.putS, SX.gobs, SX.AllP, SX.leave, SX.lookC, SX.lookB, SX.lookT, SX.lookN, SX.findK, SX.evBuiltin, SX.ints, SX.foldI, SX.evBin, SX.evInt, SX.evStr, SX.evEq, SX.arith, SX.evLoad, SX.shapeUp, SX.evFieldAddr, SX.evField, SX.evIndexAddr, SX.evIndex, SX.evFill, SX.evBuild, SX.szs, SX.cellsV, SX.evNew, SX.evStore, SX.spliceL, SX.SV.cells, SX.evConv, SX.evSlice, SX.bnd, SX.evNil, SX.evUn, SX.evPick, SX.pickOpd, SX.popTo, SX.cnd, SX.env0, SX.TD.isAgg, SX.TD.isIface, SX.tails, SX.NotAgg, SX.evLookup, SX.evConvH, SX.evPtrEq, SX.isCells, SX.thaw, SX.frz, SX.fixB, SX.rootIx, SX.Froz, SX.frzStep, SX.fork, Go.Value.cells, Go.undef, cfg6, clC, overCl, cL2]
  refine ⟨by (unfold SX.Ob; first | trivial | omega | ((try simp only [SX.inK]); (try simp [SX.den, SX.IsU8, *]); (try omega))), ?_⟩
  intro a17 w17 hr17 _
  refine seg cfg6_ok mixed PanicFree.body 4 [] [] hr17 (by first | trivial | exact HpRep.nil | assumption) (by kernel_rfl) fun s_ hs_ => ?_
  simp (maxSteps := 10000000) [SX.vc, SX.stop, SX.contS, SX.contB, SX.contW, SX.contR, SX.contD, SX.sxStep, SX.stepPure, SX.stepNew, SX.stepStore, SX.stepKeep, SX.guardIx, SX.evOp, SX.opd, SX.opds, SX.optOpd, SX.look, SX.putS, SX.gobs, SX.AllP, SX.leave, SX.lookC, SX.lookB, SX.lookT, SX.lookN, SX.findK, SX.evBuiltin, SX.ints, SX.foldI, SX.evBin, SX.evInt, SX.evStr, SX.evEq, SX.arith, SX.evLoad, SX.shapeUp, SX.evFieldAddr, SX.evField, SX.evIndexAddr, SX.evIndex, SX.evFill, SX.evBuild, SX.szs, SX.cellsV, SX.evNew, SX.evStore, SX.spliceL, SX.SV.cells, SX.evConv, SX.evSlice, SX.bnd, SX.evNil, SX.evUn, SX.evPick, SX.pickOpd, SX.popTo, SX.cnd, SX.env0, SX.TD.isAgg, SX.TD.isIface, SX.tails, SX.NotAgg, SX.evLookup, SX.evConvH, SX.evPtrEq, SX.isCells, SX.thaw, SX.frz, SX.fixB, SX.rootIx, SX.Froz, SX.frzStep, SX.fork, Go.Value.cells, Go.undef, cfg6]
  refine ⟨by (unfold SX.Ob; first | trivial | omega | ((try simp only [SX.inK]); (try simp [SX.den, SX.IsU8, *]); (try omega))), ?_⟩
  intro a18 w18 hr18 _
  refine seg cfg6_ok mixed PanicFree.body 1000 [] [] hr18 (by first | trivial | exact HpRep.nil | assumption) (by kernel_rfl) fun s_ hs_ => ?_
  simp (maxSteps := 10000000) [SX.vc, SX.stop, SX.contS, SX.contB, SX.contW, SX.contR, SX.contD, SX.sxStep, SX.stepPure, SX.stepNew, SX.stepStore, SX.stepKeep, SX.guardIx, SX.evOp, SX.opd, SX.opds, SX.optOpd, SX.look, SX.putS, SX.gobs, SX.AllP, SX.leave, SX.lookC, SX.lookB, SX.lookT, SX.lookN, SX.findK, SX.evBuiltin, SX.ints, SX.foldI, SX.evBin, SX.evInt, SX.evStr, SX.evEq, SX.arith, SX.evLoad, SX.shapeUp, SX.evFieldAddr, SX.evField, SX.evIndexAddr, SX.evIndex, SX.evFill, SX.evBuild, SX.szs, SX.cellsV, SX.evNew, SX.evStore, SX.spliceL, SX.SV.cells, SX.evConv, SX.evSlice, SX.bnd, SX.evNil, SX.evUn, SX.evPick, SX.pickOpd, SX.popTo, SX.cnd, SX.env0, SX.TD.isAgg, SX.TD.isIface, SX.tails, SX.NotAgg, SX.evLookup, SX.evConvH, SX.evPtrEq, SX.isCells, SX.thaw, SX.frz, SX.fixB, SX.rootIx, SX.Froz, SX.frzStep, SX.fork, Go.Value.cells, Go.undef, cfg6]
  refine ⟨by (unfold SX.Ob; first | trivial | omega | ((try simp only [SX.inK]); (try simp [SX.den, SX.IsU8, *]); (try omega))), ?_⟩
  intro a19 w19 hr19 _
  have k1 := SO.rep_lt hA15.1.1
  have k2 := SO.rep_lt hA15.2.1.1
  have k3 := SO.rep_lt hA15.2.2.1.1
  have k4 := SO.rep_lt hA15.2.2.2.1.1
  have k5 := SO.rep_lt hA15.2.2.2.2.1.1
  have hz16 : w15.heap.size ≤ w16.heap.size := hb16.size
  have hF19 := hF16.keep hr19.keeps (by
    intro x hx
    simp [frameAt, mutB] at hx
    rcases hx with rfl | rfl | rfl | rfl | rfl <;> omega)
  have hv19 : Ints w19 (.slice (some ⟨s_13, 0, none⟩) 2 2) 2 gL := .inr ⟨by omega, s_13, 0, 2, 2, 3, (0, 0), rfl, Nat.le_refl _, rep_arr_sub hr19.all.2.2.2.1.1 (Nat.le_refl _) fun j hj => by
    rcases j with _ | _ | j <;> first | rfl | omega⟩
  have hI2 : Calls Try.prog 12 (denL [.ag (clC (overCl cL2 (.slice Va 1 Vc))), .ag [.v (.int .i64 2), .v (.int .i64 2), .v (.int .i64 100), .v (.int .i64 1), .sl 3 s_13 0 0 2 2 1, .v (.slice none 0 0)]]).toArray w19 (AccNo w19 (overCl cL2 (.slice Va 1 Vc)) 1 (snoc 0 fL ⟨1, actL, 0, vd16, 2⟩)) :=
    accept_no w19 (overCl cL2 (.slice Va 1 Vc)) ⟨2, 2, 100, 1, .slice (some ⟨s_13, 0, none⟩) 2 2, .slice none 0 0⟩ (fun x => w15.heap.size ≤ x) (fun _ => False) 1 _ 2 gL none 0 0 (by rintro ⟨h, _⟩; cases h) hF19 (by omega) hv19 rfl
  refine post_call 12 [.ag (clC (overCl cL2 (.slice Va 1 Vc))), .ag [.v (.int .i64 2), .v (.int .i64 2), .v (.int .i64 100), .v (.int .i64 1), .sl 3 s_13 0 0 2 2 1, .v (.slice none 0 0)]] hr19 (wanted_none rfl) rfl (callable 12 Try.func12) hI2 ?_
  rintro e20 w20 ⟨V2, rfl, hF20, hb20⟩
  obtain ⟨Va2, Vc2, rfl⟩ := hF20.slice
  refine ⟨_, rfl, ?_⟩
  have h20 := hr19.ret hb20 40 (.tu [.ag (clC (overCl cL2 (.slice Va2 1 Vc2))), .v (.bool false)]) rfl _ (hr19.all.below hb20) (by simp) rfl
  refine seg cfg6_ok mixed PanicFree.body 5 [] [] h20.rebase (by first | trivial | exact HpRep.nil | assumption) (by kernel_rfl) fun s_ hs_ => ?_
  simp (maxSteps := 10000000) [SX.vc, SX.stop, SX.contS, SX.contB, SX.contW, SX.contR, SX.contD, SX.sxStep, SX.stepPure, SX.stepNew, SX.stepStore, SX.stepKeep, SX.guardIx, SX.evOp, SX.opd, SX.opds, SX.optOpd, SX.look, SX.putS, SX.gobs, SX.AllP, SX.leave, SX.lookC, SX.lookB, SX.lookT, SX.lookN, SX.findK, SX.evBuiltin, SX.ints, SX.foldI, SX.evBin, SX.evInt, SX.evStr, SX.evEq, SX.arith, SX.evLoad, SX.shapeUp, SX.evFieldAddr, SX.evField, SX.evIndexAddr, SX.evIndex, SX.evFill, SX.evBuild, SX.szs, SX.cellsV, SX.evNew, SX.evStore, SX.spliceL, SX.SV.cells, SX.evConv, SX.evSlice, SX.bnd, SX.evNil, SX.evUn, SX.evPick, SX.pickOpd, SX.popTo, SX.cnd, SX.env0, SX.TD.isAgg, SX.TD.isIface, SX.tails, SX.NotAgg, SX.evLookup, SX.evConvH, SX.evPtrEq, SX.isCells, SX.thaw, SX.frz, SX.fixB, SX.rootIx, SX.Froz, SX.frzStep, SX.fork, Go.Value.cells, Go.undef, cfg6, clC, overCl, cL2]
  refine ⟨by (unfold SX.Ob; first | trivial | omega | ((try simp only [SX.inK]); (try simp [SX.den, SX.IsU8, *]); (try omega))), ?_⟩
  intro a21 w21 hr21 _
  refine seg cfg6_ok mixed PanicFree.body 4 [] [] hr21 (by first | trivial | exact HpRep.nil | assumption) (by kernel_rfl) fun s_ hs_ => ?_
  simp (maxSteps := 10000000) [SX.vc, SX.stop, SX.contS, SX.contB, SX.contW, SX.contR, SX.contD, SX.sxStep, SX.stepPure, SX.stepNew, SX.stepStore, SX.stepKeep, SX.guardIx, SX.evOp, SX.opd, SX.opds, SX.optOpd, SX.look, SX.putS, SX.gobs, SX.AllP, SX.leave, SX.lookC, SX.lookB, SX.lookT, SX.lookN, SX.findK, SX.evBuiltin, SX.ints, SX.foldI, SX.evBin, SX.evInt, SX.evStr, SX.evEq, SX.arith, SX.evLoad, SX.shapeUp, SX.evFieldAddr, SX.evField, SX.evIndexAddr, SX.evIndex, SX.evFill, SX.evBuild, SX.szs, SX.cellsV, SX.evNew, SX.evStore, SX.spliceL, SX.SV.cells, SX.evConv, SX.evSlice, SX.bnd, SX.evNil, SX.evUn, SX.evPick, SX.pickOpd, SX.popTo, SX.cnd, SX.env0, SX.TD.isAgg, SX.TD.isIface, SX.tails, SX.NotAgg, SX.evLookup, SX.evConvH, SX.evPtrEq, SX.isCells, SX.thaw, SX.frz, SX.fixB, SX.rootIx, SX.Froz, SX.frzStep, SX.fork, Go.Value.cells, Go.undef, cfg6]
  refine ⟨by (unfold SX.Ob; first | trivial | omega | ((try simp only [SX.inK]); (try simp [SX.den, SX.IsU8, *]); (try omega))), ?_⟩
  intro a22 w22 hr22 _
  refine seg cfg6_ok mixed PanicFree.body 12 [] [(45, true), (49, true), (53, true)] hr22 (by first | trivial | exact HpRep.nil | assumption) (by kernel_rfl) fun s_ hs_ => ?_
  simp (maxSteps := 10000000) [SX.vc, SX.stop, SX.contS, SX.contB, SX.contW, SX.contR, SX.contD, SX.sxStep, SX.stepPure, SX.stepNew, SX.stepStore, SX.stepKeep, SX.guardIx, SX.evOp, SX.opd, SX.opds, SX.optOpd, SX.look, SX.putS, SX.gobs, SX.AllP, SX.leave, SX.lookC, SX.lookB, SX.lookT, SX.lookN, SX.findK, SX.evBuiltin, SX.ints, SX.foldI, SX.evBin, SX.evInt, SX.evStr, SX.evEq, SX.arith, SX.evLoad, SX.shapeUp, SX.evFieldAddr, SX.evField, SX.evIndexAddr, SX.evIndex, SX.evFill, SX.evBuild, SX.szs, SX.cellsV, SX.evNew, SX.evStore, SX.spliceL, SX.SV.cells, SX.evConv, SX.evSlice, SX.bnd, SX.evNil, SX.evUn, SX.evPick, SX.pickOpd, SX.popTo, SX.cnd, SX.env0, SX.TD.isAgg, SX.TD.isIface, SX.tails, SX.NotAgg, SX.evLookup, SX.evConvH, SX.evPtrEq, SX.isCells, SX.thaw, SX.frz, SX.fixB, SX.rootIx, SX.Froz, SX.frzStep, SX.fork, Go.Value.cells, Go.undef, cfg6]
  refine ⟨by (unfold SX.Ob; first | trivial | omega | ((try simp only [SX.inK]); (try simp [SX.den, SX.IsU8, *]); (try omega))), ?_⟩
  intro a23 w23 hr23 _
  refine seg cfg6_ok mixed PanicFree.body 1000 [] [(45, true), (49, true), (53, true)] hr23 (by first | trivial | exact HpRep.nil | assumption) (by kernel_rfl) fun s_ hs_ => ?_
  simp (maxSteps := 10000000) [SX.vc, SX.stop, SX.contS, SX.contB, SX.contW, SX.contR, SX.contD, SX.sxStep, SX.stepPure, SX.stepNew, SX.stepStore, SX.stepKeep, SX.guardIx, SX.evOp, SX.opd, SX.opds, SX.optOpd, SX.look, SX.putS, SX.gobs, SX.AllP, SX.leave, SX.lookC, SX.lookB, SX.lookT, SX.lookN, SX.findK, SX.evBuiltin, SX.ints, SX.foldI, SX.evBin, SX.evInt, SX.evStr, SX.evEq, SX.arith, SX.evLoad, SX.shapeUp, SX.evFieldAddr, SX.evField, SX.evIndexAddr, SX.evIndex, SX.evFill, SX.evBuild, SX.szs, SX.cellsV, SX.evNew, SX.evStore, SX.spliceL, SX.SV.cells, SX.evConv, SX.evSlice, SX.bnd, SX.evNil, SX.evUn, SX.evPick, SX.pickOpd, SX.popTo, SX.cnd, SX.env0, SX.TD.isAgg, SX.TD.isIface, SX.tails, SX.NotAgg, SX.evLookup, SX.evConvH, SX.evPtrEq, SX.isCells, SX.thaw, SX.frz, SX.fixB, SX.rootIx, SX.Froz, SX.frzStep, SX.fork, Go.Value.cells, Go.undef, cfg6]
  refine ⟨by (unfold SX.Ob; first | trivial | omega | ((try simp only [SX.inK]); (try simp [SX.den, SX.IsU8, *]); (try omega))), ?_⟩
  intro a24 w24 hr24 _
  have hq20 := h16.unbase (h20.unbase hr24)
  have hq10 := h10.unbase hq20
  have l51 := SO.rep_lt hr5.all.1.1
  have hz6 : w5.heap.size ≤ w6.heap.size := hb6.size
  have hz9 : w6.heap.size ≤ w9.heap.size := hr9.keeps.size
  have hz10 : w9.heap.size ≤ w10.heap.size := hb10.size
  have hN6 : MsgF (fun x => w5.heap.size ≤ x ∧ x < w6.heap.size) w24 actL 3 _ _ := (hM6.mono (P' := fun x => w5.heap.size ≤ x ∧ x < w6.heap.size) fun x h1 h2 => ⟨h2, h1⟩).keep hq10.keeps (by
    intro x hx
    simp [frameAt, mutB] at hx
    subst hx
    omega)
  have hN10 : MsgF (fun x => w9.heap.size ≤ x) w24 actL 3 _ _ := hM10.keep hq20.keeps (by
    intro x hx
    simp [frameAt, mutB] at hx
    rcases hx with rfl | rfl <;> omega)
  have hA19 := hr19.all
  have j1 := SO.rep_lt hA19.1.1
  have j2 := SO.rep_lt hA19.2.1.1
  have j3 := SO.rep_lt hA19.2.2.1.1
  have j4 := SO.rep_lt hA19.2.2.2.1.1
  have j5 := SO.rep_lt hA19.2.2.2.2.1.1
  have j6 := SO.rep_lt hA19.2.2.2.2.2.1.1
  have hF24 := hF20.keep hr24.keeps (by
    intro x hx
    simp [frameAt, mutB] at hx
    rcases hx with rfl | rfl | rfl | rfl | rfl | rfl <;> omega)
  refine post_call 15 [.ag (msgC 1 100 2 1 (.slice xa 4 xc) (.slice ya yn yc)), .ag (msgC 1 100 2 1 (.slice xa2 4 xc2) (.slice ya2 yn2 yc2))] hr24 (wanted_zero (hr24.env.same rfl rfl rfl rfl) rfl (by simp)) rfl (callable 15 Try.func15) (sameMsg_F w24 1 100 2 1 actL 3 _ _ _ _ hN6 hN10 fun x h1 h2 => by omega) ?_
  rintro e25 w25 ⟨rfl, hb25⟩
  refine ⟨_, rfl, ?_⟩
  have h25 := hr24.ret hb25 56 (.v (.bool true)) rfl _ (hr24.all.below hb25) (by simp) rfl
  have hN25 := hN6.below hb25
  have hF25 := hF24.below hb25
  refine seg cfg6_ok mixed PanicFree.body 4 [] [(45, true), (49, true), (53, true), (58, true)] h25 (by first | trivial | exact HpRep.nil | assumption) (by kernel_rfl) fun s_ hs_ => ?_
  simp (maxSteps := 10000000) [SX.vc, SX.stop, SX.contS, SX.contB, SX.contW, SX.contR, SX.contD, SX.sxStep, SX.stepPure, SX.stepNew, SX.stepStore, SX.stepKeep, SX.guardIx, SX.evOp, SX.opd, SX.opds, SX.optOpd, SX.look, SX.putS, SX.gobs, SX.AllP, SX.leave, SX.lookC, SX.lookB, SX.lookT, SX.lookN, SX.findK, SX.evBuiltin, SX.ints, SX.foldI, SX.evBin, SX.evInt, SX.evStr, SX.evEq, SX.arith, SX.evLoad, SX.shapeUp, SX.evFieldAddr, SX.evField, SX.evIndexAddr, SX.evIndex, SX.evFill, SX.evBuild, SX.szs, SX.cellsV, SX.evNew, SX.evStore, SX.spliceL, SX.SV.cells, SX.evConv, SX.evSlice, SX.bnd, SX.evNil, SX.evUn, SX.evPick, SX.pickOpd, SX.popTo, SX.cnd, SX.env0, SX.TD.isAgg, SX.TD.isIface, SX.tails, SX.NotAgg, SX.evLookup, SX.evConvH, SX.evPtrEq, SX.isCells, SX.thaw, SX.frz, SX.fixB, SX.rootIx, SX.Froz, SX.frzStep, SX.fork, Go.Value.cells, Go.undef, cfg6]
  refine ⟨by (unfold SX.Ob; first | trivial | omega | ((try simp only [SX.inK]); (try simp [SX.den, SX.IsU8, *]); (try omega))), ?_⟩
  intro a25a w25a hr25a _
  refine seg cfg6_ok mixed PanicFree.body 1 [] [(45, true), (49, true), (53, true), (58, true)] hr25a (by first | trivial | exact HpRep.nil | assumption) (by kernel_rfl) fun s_ hs_ => ?_
  simp (maxSteps := 10000000) [SX.vc, SX.stop, SX.contS, SX.contB, SX.contW, SX.contR, SX.contD, SX.sxStep, SX.stepPure, SX.stepNew, SX.stepStore, SX.stepKeep, SX.guardIx, SX.evOp, SX.opd, SX.opds, SX.optOpd, SX.look, SX.putS, SX.gobs, SX.AllP, SX.leave, SX.lookC, SX.lookB, SX.lookT, SX.lookN, SX.findK, SX.evBuiltin, SX.ints, SX.foldI, SX.evBin, SX.evInt, SX.evStr, SX.evEq, SX.arith, SX.evLoad, SX.shapeUp, SX.evFieldAddr, SX.evField, SX.evIndexAddr, SX.evIndex, SX.evFill, SX.evBuild, SX.szs, SX.cellsV, SX.evNew, SX.evStore, SX.spliceL, SX.SV.cells, SX.evConv, SX.evSlice, SX.bnd, SX.evNil, SX.evUn, SX.evPick, SX.pickOpd, SX.popTo, SX.cnd, SX.env0, SX.TD.isAgg, SX.TD.isIface, SX.tails, SX.NotAgg, SX.evLookup, SX.evConvH, SX.evPtrEq, SX.isCells, SX.thaw, SX.frz, SX.fixB, SX.rootIx, SX.Froz, SX.frzStep, SX.fork, Go.Value.cells, Go.undef, cfg6]
  refine ⟨by (unfold SX.Ob; first | trivial | omega | ((try simp only [SX.inK]); (try simp [SX.den, SX.IsU8, *]); (try omega))), ?_⟩
  intro a26 w26 hr26 _
  have hA26 := hr26.all
  have hN26 : MsgF (fun x => w5.heap.size ≤ x ∧ x < w6.heap.size) w26 actL 3 _ _ := (hM6.mono (P' := fun x => w5.heap.size ≤ x ∧ x < w6.heap.size) fun x h1 h2 => ⟨h2, h1⟩).keep (h10.unbase (h16.unbase (h20.unbase hr26))).keeps (by
    intro x hx
    simp [frameAt, mutB] at hx
    subst hx
    omega)
  obtain ⟨⟨b1, o1, N1, c1, u1, z1, p1, e1, n1, r1⟩, hd26⟩ := hN26
  cases e1
  have hz26 : w20.heap.size ≤ w26.heap.size := hr26.keeps.size
  have hz20 : w19.heap.size ≤ w20.heap.size := hb20.size
  have hz19 : w16.heap.size ≤ w19.heap.size := hr19.keeps.size
  have hz15 : w10.heap.size ≤ w15.heap.size := hr15.keeps.size
  have hz25 : w24.heap.size ≤ w25.heap.size := hb25.size
  have hz24 : w20.heap.size ≤ w24.heap.size := hr24.keeps.size
  have hz25a : w20.heap.size ≤ w25a.heap.size := hr25a.keeps.size
  have hsm : Calls Try.prog 18 (denL [.v (.slice (some ⟨b1, o1, none⟩) 4 xc), .sl 7 s_ 0 0 4 4 1]).toArray w26 (SamePost w26 4 4 (fun j => [(3 : Int), actL.do_, actL.lba, actL.n].getD j 0) (fun j => [(3 : Int), 4, 5, 1].getD j 0)) := by
    have := same_some w26 4 b1 o1 N1 xc s_ 0 4 4 u1 3 z1 (0, 0) (fun j => [(3 : Int), actL.do_, actL.lba, actL.n].getD j 0) (fun j => [(3 : Int), 4, 5, 1].getD j 0) (by omega) n1 (Nat.le_refl _) (by omega) r1 (rep_arr_sub hA26.2.2.2.2.2.2.2.1.1 (Nat.le_refl _) fun j hj => by
      rcases j with _ | _ | _ | _ | j <;> first | rfl | omega)
    exact this
  refine post_call 18 [.v (.slice (some ⟨b1, o1, none⟩) 4 xc), .sl 7 s_ 0 0 4 4 1] hr26 (wanted_zero (hr26.env.same rfl rfl rfl rfl) rfl (by simp)) rfl (callable 18 Try.func18) hsm ?_
  rintro e27 w27 ⟨t27, rfl, ht27, hb27⟩
  obtain rfl : t27 = true := ht27.2 ⟨rfl, fun j hj => by rcases j with _ | _ | _ | _ | j <;> first | rfl | omega⟩
  refine ⟨_, rfl, ?_⟩
  have h27 := hr26.ret hb27 62 (.v (.bool true)) rfl _ (hr26.all.below hb27) (by simp) rfl
  refine seg cfg6_ok mixed PanicFree.body 4 [] [(45, true), (49, true), (53, true), (58, true), (64, true)] h27 (by first | trivial | exact HpRep.nil | assumption) (by kernel_rfl) fun s_ hs_ => ?_
  simp (maxSteps := 10000000) [SX.vc, SX.stop, SX.contS, SX.contB, SX.contW, SX.contR, SX.contD, SX.sxStep, SX.stepPure, SX.stepNew, SX.stepStore, SX.stepKeep, SX.guardIx, SX.evOp, SX.opd, SX.opds, SX.optOpd, SX.look, SX.putS, SX.gobs, SX.AllP, SX.leave, SX.lookC, SX.lookB, SX.lookT, SX.lookN, SX.findK, SX.evBuiltin, SX.ints, SX.foldI, SX.evBin, SX.evInt, SX.evStr, SX.evEq, SX.arith, SX.evLoad, SX.shapeUp, SX.evFieldAddr, SX.evField, SX.evIndexAddr, SX.evIndex, SX.evFill, SX.evBuild, SX.szs, SX.cellsV, SX.evNew, SX.evStore, SX.spliceL, SX.SV.cells, SX.evConv, SX.evSlice, SX.bnd, SX.evNil, SX.evUn, SX.evPick, SX.pickOpd, SX.popTo, SX.cnd, SX.env0, SX.TD.isAgg, SX.TD.isIface, SX.tails, SX.NotAgg, SX.evLookup, SX.evConvH, SX.evPtrEq, SX.isCells, SX.thaw, SX.frz, SX.fixB, SX.rootIx, SX.Froz, SX.frzStep, SX.fork, Go.Value.cells, Go.undef, cfg6]
  refine ⟨by (unfold SX.Ob; first | trivial | omega | ((try simp only [SX.inK]); (try simp [SX.den, SX.IsU8, *]); (try omega))), ?_⟩
  intro a28 w28 hr28 _
  have hN28 : MsgF (fun x => w5.heap.size ≤ x ∧ x < w6.heap.size) w28 actL 3 _ _ := (hM6.mono (P' := fun x => w5.heap.size ≤ x ∧ x < w6.heap.size) fun x h1 h2 => ⟨h2, h1⟩).keep (h10.unbase (h16.unbase (h20.unbase hr28))).keeps (by
    intro x hx
    simp [frameAt, mutB] at hx
    subst hx
    omega)
  have hF28 := hF20.keep hr28.keeps (by
    intro x hx
    simp [frameAt, mutB] at hx
    rcases hx with rfl | rfl | rfl | rfl | rfl | rfl <;> omega)
  rcases hN28.2 with ⟨h4, _⟩ | ⟨_, bd, ud, zd, pd, ed, rd⟩
  · exact absurd rfl h4
  cases ed
  have hr29 := (hr28.top 66 (.sl 0 bd 0 0 1 1 1) rfl rfl).see [(bd, false, .arr 0 1 (fun _ => [.v (.int .u8 actL.by_)]) 1 ud zd)] (HpAll.one rd)
  have hstr : ((strOf (u8s (fun _ => [SV.v (.int .u8 9)]) 0 1)).toList == [9]) = true := by
    rw [ByteArray.toList_eq]
    rfl
  refine seg cfg6_ok mixed PanicFree.body 2 [] [(45, true), (49, true), (53, true), (58, true), (64, true)] hr29.rebase (by first | trivial | exact HpRep.nil | assumption) (by kernel_rfl) fun s_ hs_ => ?_
  simp (maxSteps := 10000000) [SX.vc, SX.stop, SX.contS, SX.contB, SX.contW, SX.contR, SX.contD, SX.sxStep, SX.stepPure, SX.stepNew, SX.stepStore, SX.stepKeep, SX.guardIx, SX.evOp, SX.opd, SX.opds, SX.optOpd, SX.look, SX.putS, SX.gobs, SX.AllP, SX.leave, SX.lookC, SX.lookB, SX.lookT, SX.lookN, SX.findK, SX.evBuiltin, SX.ints, SX.foldI, SX.evBin, SX.evInt, SX.evStr, SX.evEq, SX.arith, SX.evLoad, SX.shapeUp, SX.evFieldAddr, SX.evField, SX.evIndexAddr, SX.evIndex, SX.evFill, SX.evBuild, SX.szs, SX.cellsV, SX.evNew, SX.evStore, SX.spliceL, SX.SV.cells, SX.evConv, SX.evSlice, SX.bnd, SX.evNil, SX.evUn, SX.evPick, SX.pickOpd, SX.popTo, SX.cnd, SX.env0, SX.TD.isAgg, SX.TD.isIface, SX.tails, SX.NotAgg, SX.evLookup, SX.evConvH, SX.evPtrEq, SX.isCells, SX.thaw, SX.frz, SX.fixB, SX.rootIx, SX.Froz, SX.frzStep, SX.fork, Go.Value.cells, Go.undef, cfg6, actL, hstr]
  refine ⟨by (unfold SX.Ob; first | trivial | omega | ((try simp only [SX.inK]); (try simp [SX.den, SX.IsU8, *]); (try omega))), ?_⟩
  intro a30 w30 hr30' _
  have hr30 := hr28.back hr29 rfl hr30'
  refine seg cfg6_ok mixed PanicFree.body 6 [] [(45, true), (49, true), (53, true), (58, true), (64, true), (70, true), (73, true), (77, true), (83, true)] hr30 (by first | trivial | exact HpRep.nil | assumption) (by kernel_rfl) fun s_ hs_ => ?_
  simp (maxSteps := 10000000) [SX.vc, SX.stop, SX.contS, SX.contB, SX.contW, SX.contR, SX.contD, SX.sxStep, SX.stepPure, SX.stepNew, SX.stepStore, SX.stepKeep, SX.guardIx, SX.evOp, SX.opd, SX.opds, SX.optOpd, SX.look, SX.putS, SX.gobs, SX.AllP, SX.leave, SX.lookC, SX.lookB, SX.lookT, SX.lookN, SX.findK, SX.evBuiltin, SX.ints, SX.foldI, SX.evBin, SX.evInt, SX.evStr, SX.evEq, SX.arith, SX.evLoad, SX.shapeUp, SX.evFieldAddr, SX.evField, SX.evIndexAddr, SX.evIndex, SX.evFill, SX.evBuild, SX.szs, SX.cellsV, SX.evNew, SX.evStore, SX.spliceL, SX.SV.cells, SX.evConv, SX.evSlice, SX.bnd, SX.evNil, SX.evUn, SX.evPick, SX.pickOpd, SX.popTo, SX.cnd, SX.env0, SX.TD.isAgg, SX.TD.isIface, SX.tails, SX.NotAgg, SX.evLookup, SX.evConvH, SX.evPtrEq, SX.isCells, SX.thaw, SX.frz, SX.fixB, SX.rootIx, SX.Froz, SX.frzStep, SX.fork, Go.Value.cells, Go.undef, cfg6]
  refine ⟨by (unfold SX.Ob; first | trivial | omega | ((try simp only [SX.inK]); (try simp [SX.den, SX.IsU8, *]); (try omega))), ?_⟩
  intro a31 w31 hr31 _
  refine seg cfg6_ok mixed PanicFree.body 6 [] [(45, true), (49, true), (53, true), (58, true), (64, true), (70, true), (73, true), (77, true), (83, true)] hr31 (by first | trivial | exact HpRep.nil | assumption) (by kernel_rfl) fun s_ hs_ => ?_
  simp (maxSteps := 10000000) [SX.vc, SX.stop, SX.contS, SX.contB, SX.contW, SX.contR, SX.contD, SX.sxStep, SX.stepPure, SX.stepNew, SX.stepStore, SX.stepKeep, SX.guardIx, SX.evOp, SX.opd, SX.opds, SX.optOpd, SX.look, SX.putS, SX.gobs, SX.AllP, SX.leave, SX.lookC, SX.lookB, SX.lookT, SX.lookN, SX.findK, SX.evBuiltin, SX.ints, SX.foldI, SX.evBin, SX.evInt, SX.evStr, SX.evEq, SX.arith, SX.evLoad, SX.shapeUp, SX.evFieldAddr, SX.evField, SX.evIndexAddr, SX.evIndex, SX.evFill, SX.evBuild, SX.szs, SX.cellsV, SX.evNew, SX.evStore, SX.spliceL, SX.SV.cells, SX.evConv, SX.evSlice, SX.bnd, SX.evNil, SX.evUn, SX.evPick, SX.pickOpd, SX.popTo, SX.cnd, SX.env0, SX.TD.isAgg, SX.TD.isIface, SX.tails, SX.NotAgg, SX.evLookup, SX.evConvH, SX.evPtrEq, SX.isCells, SX.thaw, SX.frz, SX.fixB, SX.rootIx, SX.Froz, SX.frzStep, SX.fork, Go.Value.cells, Go.undef, cfg6]
  refine ⟨by (unfold SX.Ob; first | trivial | omega | ((try simp only [SX.inK]); (try simp [SX.den, SX.IsU8, *]); (try omega))), ?_⟩
  intro a32 w32 hr32 _
  refine seg cfg6_ok mixed PanicFree.body 1000 [] [(45, true), (49, true), (53, true), (58, true), (64, true), (70, true), (73, true), (77, true), (83, true)] hr32 (by first | trivial | exact HpRep.nil | assumption) (by kernel_rfl) fun s_ hs_ => ?_
  simp (maxSteps := 10000000) [SX.vc, SX.stop, SX.contS, SX.contB, SX.contW, SX.contR, SX.contD, SX.sxStep, SX.stepPure, SX.stepNew, SX.stepStore, SX.stepKeep, SX.guardIx, SX.evOp, SX.opd, SX.opds, SX.optOpd, SX.look, SX.putS, SX.gobs, SX.AllP, SX.leave, SX.lookC, SX.lookB, SX.lookT, SX.lookN, SX.findK, SX.evBuiltin, SX.ints, SX.foldI, SX.evBin, SX.evInt, SX.evStr, SX.evEq, SX.arith, SX.evLoad, SX.shapeUp, SX.evFieldAddr, SX.evField, SX.evIndexAddr, SX.evIndex, SX.evFill, SX.evBuild, SX.szs, SX.cellsV, SX.evNew, SX.evStore, SX.spliceL, SX.SV.cells, SX.evConv, SX.evSlice, SX.bnd, SX.evNil, SX.evUn, SX.evPick, SX.pickOpd, SX.popTo, SX.cnd, SX.env0, SX.TD.isAgg, SX.TD.isIface, SX.tails, SX.NotAgg, SX.evLookup, SX.evConvH, SX.evPtrEq, SX.isCells, SX.thaw, SX.frz, SX.fixB, SX.rootIx, SX.Froz, SX.frzStep, SX.fork, Go.Value.cells, Go.undef, cfg6]
  refine ⟨by (unfold SX.Ob; first | trivial | omega | ((try simp only [SX.inK]); (try simp [SX.den, SX.IsU8, *]); (try omega))), ?_⟩
  intro a33 w33 hr33 _
  have hF33 := hF16.keep (h20.unbase hr33).keeps (by
    intro x hx
    simp [frameAt, mutB] at hx
    rcases hx with rfl | rfl | rfl | rfl | rfl <;> omega)
  rcases hF33 with ⟨h, _⟩ | ⟨_, bf, Nf, cf, uf, rowf, pf, ef, hc1, hc2, rf, hrow⟩
  · cases h
  cases ef
  have hr34 := (hr33.top 85 (.sl 0 bf 0 0 1 Vc 11) rfl rfl).see [(bf, false, .arr 0 1 (fun _ => finC ⟨1, actL, 0, vd16, 2⟩) 11 uf (0, 0))] (HpAll.one (rep_arr_sub rf (by omega) fun j hj => by
    obtain rfl : j = 0 := by omega
    rw [(hrow 0 hj).1]
    rfl))
  refine seg cfg6_ok mixed PanicFree.body 3 [] [(45, true), (49, true), (53, true), (58, true), (64, true), (70, true), (73, true), (77, true), (83, true)] hr34.rebase (by first | trivial | exact HpRep.nil | assumption) (by kernel_rfl) fun s_ hs_ => ?_
  simp (maxSteps := 10000000) [SX.vc, SX.stop, SX.contS, SX.contB, SX.contW, SX.contR, SX.contD, SX.sxStep, SX.stepPure, SX.stepNew, SX.stepStore, SX.stepKeep, SX.guardIx, SX.evOp, SX.opd, SX.opds, SX.optOpd, SX.look, SX.putS, SX.gobs, SX.AllP, SX.leave, SX.lookC, SX.lookB, SX.lookT, SX.lookN, SX.findK, SX.evBuiltin, SX.ints, SX.foldI, SX.evBin, SX.evInt, SX.evStr, SX.evEq, SX.arith, SX.evLoad, SX.shapeUp, SX.evFieldAddr, SX.evField, SX.evIndexAddr, SX.evIndex, SX.evFill, SX.evBuild, SX.szs, SX.cellsV, SX.evNew, SX.evStore, SX.spliceL, SX.SV.cells, SX.evConv, SX.evSlice, SX.bnd, SX.evNil, SX.evUn, SX.evPick, SX.pickOpd, SX.popTo, SX.cnd, SX.env0, SX.TD.isAgg, SX.TD.isIface, SX.tails, SX.NotAgg, SX.evLookup, SX.evConvH, SX.evPtrEq, SX.isCells, SX.thaw, SX.frz, SX.fixB, SX.rootIx, SX.Froz, SX.frzStep, SX.fork, Go.Value.cells, Go.undef, cfg6, finC, actL]
  refine ⟨by (unfold SX.Ob; first | trivial | omega | ((try simp only [SX.inK]); (try simp [SX.den, SX.IsU8, *]); (try omega))), ?_⟩
  intro a35 w35 hr35' _
  have hr35 := hr33.back hr34 rfl hr35'
  refine seg cfg6_ok mixed PanicFree.body 1000 [] [(45, true), (49, true), (53, true), (58, true), (64, true), (70, true), (73, true), (77, true), (83, true)] hr35 (by first | trivial | exact HpRep.nil | assumption) (by kernel_rfl) fun s_ hs_ => ?_
  simp (maxSteps := 10000000) [SX.vc, SX.stop, SX.contS, SX.contB, SX.contW, SX.contR, SX.contD, SX.sxStep, SX.stepPure, SX.stepNew, SX.stepStore, SX.stepKeep, SX.guardIx, SX.evOp, SX.opd, SX.opds, SX.optOpd, SX.look, SX.putS, SX.gobs, SX.AllP, SX.leave, SX.lookC, SX.lookB, SX.lookT, SX.lookN, SX.findK, SX.evBuiltin, SX.ints, SX.foldI, SX.evBin, SX.evInt, SX.evStr, SX.evEq, SX.arith, SX.evLoad, SX.shapeUp, SX.evFieldAddr, SX.evField, SX.evIndexAddr, SX.evIndex, SX.evFill, SX.evBuild, SX.szs, SX.cellsV, SX.evNew, SX.evStore, SX.spliceL, SX.SV.cells, SX.evConv, SX.evSlice, SX.bnd, SX.evNil, SX.evUn, SX.evPick, SX.pickOpd, SX.popTo, SX.cnd, SX.env0, SX.TD.isAgg, SX.TD.isIface, SX.tails, SX.NotAgg, SX.evLookup, SX.evConvH, SX.evPtrEq, SX.isCells, SX.thaw, SX.frz, SX.fixB, SX.rootIx, SX.Froz, SX.frzStep, SX.fork, Go.Value.cells, Go.undef, cfg6]
  refine ⟨by (unfold SX.Ob; first | trivial | omega | ((try simp only [SX.inK]); (try simp [SX.den, SX.IsU8, *]); (try omega))), ?_⟩
  intro a36 w36 hr36 _
  have hr37 := h6.unbase (h10.unbase (h16.unbase (h20.unbase hr36)))
  exact post_retn (end1 hr37 rfl rfl ⟨rfl, hr37.keeps.toBelow⟩).1
end Go.Proofs
