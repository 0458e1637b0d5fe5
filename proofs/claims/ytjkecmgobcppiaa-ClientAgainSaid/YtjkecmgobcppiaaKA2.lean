/- The client: whether one that is over is asked for (Last's closure). -/
import Derived.Test.YtjkecmgobcppiaaKT2
namespace Go.Proofs
set_option linter.unusedVariables false
set_option linter.unusedSimpArgs false
open Go Go.SX Go.RowKit

set_option maxRecDepth 100000 in
set_option maxHeartbeats 4000000 in
/-- What is left out: what has another number than the one asked for. -/
theorem out_ok (w : World) (f : Fin11) (mb : Nat) (v : Value) (x : Int) (hd : ∃ a n c, f.data = .slice a n c) (hm : (SO.cells [.v v] 33).rep w mb) (hs : ∃ a c, v = .slice a 1 c) (hv : Ints w v 1 (fun _ => x)) :
    Calls Try.prog 30 (denL [.ag (finC f), .ptr 0 mb 0]).toArray w fun e w' => e = .returned (.bool (!(f.id == x))) ∧ Below w.heap.size w w' := by
  obtain ⟨da, dn, dc, hd⟩ := hd
  obtain ⟨a, c, rfl⟩ := hs
  refine enter (F := frame0 w) Try.func30 rfl [.ag (finC f), .ptr 0 mb 0] [(mb, false, .cells [.v (.slice a 1 c)] 33)] (by simp [Try.f30]) (HpAll.one hm) (keeps0 w) fun a1 hr => ?_
  refine seg cfg30_ok mixed PanicFree.body 6 [] [] hr (by first | trivial | exact HpRep.nil | assumption) (by kernel_rfl) fun s_ hs_ => ?_
  simp (maxSteps := 10000000) [SX.vc, SX.stop, SX.contS, SX.contB, SX.contW, SX.contR, SX.contD, SX.sxStep, SX.stepPure, SX.stepNew, SX.stepStore, SX.stepKeep, SX.guardIx, SX.evOp, SX.opd, SX.opds, SX.optOpd, SX.look, SX.putS, SX.gobs, SX.AllP, SX.leave, SX.lookC, SX.lookB, SX.lookT, SX.lookN, SX.findK, SX.evBuiltin, SX.ints, SX.foldI, SX.evBin, SX.evInt, SX.evStr, SX.evEq, SX.arith, SX.evLoad, SX.shapeUp, SX.evFieldAddr, SX.evField, SX.evIndexAddr, SX.evIndex, SX.evFill, SX.evBuild, SX.szs, SX.cellsV, SX.evNew, SX.evStore, SX.spliceL, SX.SV.cells, SX.evConv, SX.evSlice, SX.bnd, SX.evNil, SX.evUn, SX.evPick, SX.pickOpd, SX.popTo, SX.cnd, SX.env0, SX.TD.isAgg, SX.TD.isIface, SX.tails, SX.NotAgg, SX.evLookup, SX.evConvH, SX.evPtrEq, SX.isCells, SX.thaw, SX.frz, SX.fixB, SX.rootIx, SX.Froz, SX.frzStep, SX.fork, Go.Value.cells, Go.undef, cfg30, Try.f30, finC, hd]
  refine ⟨by (unfold SX.Ob; first | trivial | omega | ((try simp only [SX.inK]); (try simp [SX.den, SX.IsU8, *]); (try omega))), ?_⟩
  intro a2 w2 hr2 _
  refine seg cfg30_ok mixed PanicFree.body 1000 [] [(7, true)] hr2 (by first | trivial | exact HpRep.nil | assumption) (by kernel_rfl) fun s_ hs_ => ?_
  simp (maxSteps := 10000000) [SX.vc, SX.stop, SX.contS, SX.contB, SX.contW, SX.contR, SX.contD, SX.sxStep, SX.stepPure, SX.stepNew, SX.stepStore, SX.stepKeep, SX.guardIx, SX.evOp, SX.opd, SX.opds, SX.optOpd, SX.look, SX.putS, SX.gobs, SX.AllP, SX.leave, SX.lookC, SX.lookB, SX.lookT, SX.lookN, SX.findK, SX.evBuiltin, SX.ints, SX.foldI, SX.evBin, SX.evInt, SX.evStr, SX.evEq, SX.arith, SX.evLoad, SX.shapeUp, SX.evFieldAddr, SX.evField, SX.evIndexAddr, SX.evIndex, SX.evFill, SX.evBuild, SX.szs, SX.cellsV, SX.evNew, SX.evStore, SX.spliceL, SX.SV.cells, SX.evConv, SX.evSlice, SX.bnd, SX.evNil, SX.evUn, SX.evPick, SX.pickOpd, SX.popTo, SX.cnd, SX.env0, SX.TD.isAgg, SX.TD.isIface, SX.tails, SX.NotAgg, SX.evLookup, SX.evConvH, SX.evPtrEq, SX.isCells, SX.thaw, SX.frz, SX.fixB, SX.rootIx, SX.Froz, SX.frzStep, SX.fork, Go.Value.cells, Go.undef, cfg30]
  refine ⟨by (unfold SX.Ob; first | trivial | omega | ((try simp only [SX.inK]); (try simp [SX.den, SX.IsU8, *]); (try omega))), ?_⟩
  intro a3 w3 hr3 _
  refine post_call 20 [.v (.slice a 1 c), .v (.int .i64 f.id)] hr3 (wanted_zero (hr3.env.same rfl rfl rfl rfl) rfl (by simp)) rfl (callable 20 Try.func20) (contains_ok w3 _ 1 _ f.id (hv.keep hr3.keeps.toBelow) (by omega)) ?_
  rintro e w4 ⟨r, rfl, hr', hb4⟩
  have hr'' : r = (f.id == x) := by
    rw [Bool.eq_iff_iff, hr']
    simp only [beq_iff_eq]
    exact ⟨fun ⟨j, _, e⟩ => e.symm, fun e => ⟨0, by omega, e.symm⟩⟩
  subst hr''
  refine ⟨_, rfl, ?_⟩
  have h4 := hr3.ret hb4 11 (.v (.bool (f.id == x))) rfl _ (hr3.all.below hb4) (by simp) rfl
  refine seg cfg30_ok mixed PanicFree.body 1000 [] [(7, true)] h4 (by first | trivial | exact HpRep.nil | assumption) (by kernel_rfl) fun s_ hs_ => ?_
  simp (maxSteps := 10000000) [SX.vc, SX.stop, SX.contS, SX.contB, SX.contW, SX.contR, SX.contD, SX.sxStep, SX.stepPure, SX.stepNew, SX.stepStore, SX.stepKeep, SX.guardIx, SX.evOp, SX.opd, SX.opds, SX.optOpd, SX.look, SX.putS, SX.gobs, SX.AllP, SX.leave, SX.lookC, SX.lookB, SX.lookT, SX.lookN, SX.findK, SX.evBuiltin, SX.ints, SX.foldI, SX.evBin, SX.evInt, SX.evStr, SX.evEq, SX.arith, SX.evLoad, SX.shapeUp, SX.evFieldAddr, SX.evField, SX.evIndexAddr, SX.evIndex, SX.evFill, SX.evBuild, SX.szs, SX.cellsV, SX.evNew, SX.evStore, SX.spliceL, SX.SV.cells, SX.evConv, SX.evSlice, SX.bnd, SX.evNil, SX.evUn, SX.evPick, SX.pickOpd, SX.popTo, SX.cnd, SX.env0, SX.TD.isAgg, SX.TD.isIface, SX.tails, SX.NotAgg, SX.evLookup, SX.evConvH, SX.evPtrEq, SX.isCells, SX.thaw, SX.frz, SX.fixB, SX.rootIx, SX.Froz, SX.frzStep, SX.fork, Go.Value.cells, Go.undef, cfg30]
  refine ⟨by (unfold SX.Ob; first | trivial | omega | ((try simp only [SX.inK]); (try simp [SX.den, SX.IsU8, *]); (try omega))), ?_⟩
  intro a5 w5 hr5 _
  exact post_retn (end1 hr5 rfl rfl ⟨by simp [den], hr5.keeps.toBelow⟩).1
end Go.Proofs
