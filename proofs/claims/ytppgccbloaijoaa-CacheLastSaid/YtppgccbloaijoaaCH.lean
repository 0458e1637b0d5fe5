/- The cache: Hits. -/
import Derived.Test.YtppgccbloaijoaaCQ2
namespace Go.Proofs
set_option linter.unusedVariables false
set_option linter.unusedSimpArgs false
set_option linter.unusedSectionVars false
open Go Go.SX Go.RowKit Go.Ring

def HitsPost (w : World) (h : Hd) (e : Ending) (w' : World) : Prop := e = .returned (.tuple #[.int .i64 h.hits, .int .i64 h.fails]) ∧ Below w.heap.size w w'

theorem HpRep_below {H : Hp} {w w' : World} (h : HpRep H w) (hb : Below w.heap.size w w') : HpRep H w' := fun i b m o hi => SO.rep_same (h i b m o hi) (hb.block b (SO.rep_lt (h i b m o hi)))

set_option maxRecDepth 100000 in
set_option maxHeartbeats 8000000 in
theorem hits_ok (w : World) (c : Nat) (h : Hd) (L : List Nat) (D : Nat → Ent) (G : Nat → Nat → Int) (hC : CRep w c h L D G) :
    Calls Try.prog 11 (denL [.v (.pointer (some ⟨c, 0, none⟩))]).toArray w (HitsPost w h) := by
  have hE : HpAll (frame0 w) w [(c, false, .cells (headCells h (.v (npv c L.getLast?)) (.v (npv c L.head?))) 59)] := ⟨⟨hC.ring.head, by simp, by simp⟩, trivial⟩
  refine enter (F := frame0 w) Try.func11 rfl [.ptr 0 c 0] _ (by simp [Try.f11]) hE (keeps0 w) fun a hr => ?_
  refine seg cfg11_ok mixed PanicFree.body 1000 [] [] hr (by first | trivial | exact HpRep.nil | assumption) (by kernel_rfl) fun s_ hs_ => ?_
  simp (maxSteps := 10000000) [SX.vc, SX.stop, SX.contS, SX.contB, SX.contW, SX.contR, SX.contD, SX.sxStep, SX.stepPure, SX.stepNew, SX.stepStore, SX.stepKeep, SX.guardIx, SX.evOp, SX.opd, SX.opds, SX.optOpd, SX.look, SX.putS, SX.gobs, SX.AllP, SX.leave, SX.lookC, SX.lookB, SX.lookT, SX.lookN, SX.findK, SX.evBuiltin, SX.ints, SX.foldI, SX.evBin, SX.evInt, SX.evStr, SX.evEq, SX.arith, SX.evLoad, SX.shapeUp, SX.evFieldAddr, SX.evField, SX.evIndexAddr, SX.evIndex, SX.evFill, SX.evBuild, SX.szs, SX.cellsV, SX.evNew, SX.evStore, SX.spliceL, SX.SV.cells, SX.evConv, SX.evSlice, SX.bnd, SX.evNil, SX.evUn, SX.evPick, SX.pickOpd, SX.popTo, SX.cnd, SX.env0, SX.TD.isAgg, SX.TD.isIface, SX.tails, SX.NotAgg, SX.evLookup, SX.evConvH, SX.evPtrEq, SX.isCells, SX.thaw, SX.frz, SX.fixB, SX.rootIx, SX.Froz, SX.frzStep, SX.fork, Go.Value.cells, Go.undef, cfg11, Try.f11]
  refine ⟨by (unfold SX.Ob; first | trivial | omega | ((try simp only [SX.inK]); (try simp [SX.den, SX.IsU8, SX.AllP, *]); (try omega))), ?_⟩
  intro a1 w1 hr1 ht1
  refine post_callD 22 [.ptr 0 c 7] hr1 rfl (wanted_none rfl) rfl (callable 22 Try.func22) (load_ok w1 c 7 _ h.hits hr1.all.1.1 rfl) ?_
  rintro e w2 ⟨rfl, hb2⟩
  have ht2 := HpRep_below ht1 hb2
  refine ⟨_, rfl, ht2, ?_⟩
  have h2 := hr1.ret hb2 7 (.v (.int .i64 h.hits)) rfl _ (hr1.all.below hb2) (by simp) rfl
  refine post_callD 22 [.ptr 0 c 8] h2 rfl (wanted_none rfl) rfl (callable 22 Try.func22) (load_ok w2 c 8 _ h.fails h2.all.1.1 rfl) ?_
  rintro e w3 ⟨rfl, hb3⟩
  have ht3 := HpRep_below ht2 hb3
  refine ⟨_, rfl, ht3, ?_⟩
  have h3 := h2.ret hb3 11 (.v (.int .i64 h.fails)) rfl _ (h2.all.below hb3) (by simp) rfl
  refine seg cfg11_ok mixed PanicFree.body 1000 [] [] h3 (by first | trivial | exact HpRep.nil | assumption) (by kernel_rfl) fun s_ hs_ => ?_
  simp (maxSteps := 10000000) [SX.vc, SX.stop, SX.contS, SX.contB, SX.contW, SX.contR, SX.contD, SX.sxStep, SX.stepPure, SX.stepNew, SX.stepStore, SX.stepKeep, SX.guardIx, SX.evOp, SX.opd, SX.opds, SX.optOpd, SX.look, SX.putS, SX.gobs, SX.AllP, SX.leave, SX.lookC, SX.lookB, SX.lookT, SX.lookN, SX.findK, SX.evBuiltin, SX.ints, SX.foldI, SX.evBin, SX.evInt, SX.evStr, SX.evEq, SX.arith, SX.evLoad, SX.shapeUp, SX.evFieldAddr, SX.evField, SX.evIndexAddr, SX.evIndex, SX.evFill, SX.evBuild, SX.szs, SX.cellsV, SX.evNew, SX.evStore, SX.spliceL, SX.SV.cells, SX.evConv, SX.evSlice, SX.bnd, SX.evNil, SX.evUn, SX.evPick, SX.pickOpd, SX.popTo, SX.cnd, SX.env0, SX.TD.isAgg, SX.TD.isIface, SX.tails, SX.NotAgg, SX.evLookup, SX.evConvH, SX.evPtrEq, SX.isCells, SX.thaw, SX.frz, SX.fixB, SX.rootIx, SX.Froz, SX.frzStep, SX.fork, Go.Value.cells, Go.undef, cfg11]
  refine ⟨by (unfold SX.Ob; first | trivial | omega | ((try simp only [SX.inK]); (try simp [SX.den, SX.IsU8, SX.AllP, *]); (try omega))), ?_⟩
  intro a4 w4 hr4 _
  exact post_retn (end2 hr4 rfl rfl rfl ⟨rfl, hr4.keeps.toBelow⟩).1
end Go.Proofs
