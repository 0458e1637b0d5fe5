/- The client: Last of one number, where one is over. -/
import Derived.Test.YtjkecmgobcppiaaKC2
import Derived.Test.YtjkecmgobcppiaaKL
namespace Go.Proofs
set_option linter.unusedVariables false
set_option linter.unusedSimpArgs false
open Go Go.SX Go.RowKit

def LastPost (w : World) (f : Nat → Fin11) (x : Int) (e : Ending) (w' : World) : Prop :=
  ((f 0).id = x ∧ ∃ v', e = .returned v' ∧ Fins (fun b => w.heap.size ≤ b) w' v' 1 f) ∧ Below w.heap.size w w' ∨ ((f 0).id ≠ x ∧ ∃ a c, e = .returned (.slice a 0 c)) ∧ Below w.heap.size w w'

set_option maxRecDepth 100000 in
set_option maxHeartbeats 8000000 in
theorem last_ok (w : World) (c : Cl) (P : Nat → Prop) (f : Nat → Fin11) (v : Value) (x : Int) (hF : Fins P w c.done 1 f) (hd : ∃ a n c, (f 0).data = .slice a n c) (hs : ∃ a c, v = .slice a 1 c) (hv : Ints w v 1 (fun _ => x)) :
    Calls Try.prog 17 (denL [.ag (clC c), .v v]).toArray w (LastPost w f x) := by
  obtain ⟨da, dc, hdn⟩ := hF.slice
  obtain ⟨va, vc, rfl⟩ := hs
  rw [hdn] at hF
  refine enter (F := frame0 w) Try.func17 rfl [.ag (clC c), .v (.slice va 1 vc)] [] (by simp [Try.f17]) trivial (keeps0 w) fun a hr => ?_
  refine seg cfg17_ok mixed PanicFree.body 6 [] [] hr (by first | trivial | exact HpRep.nil | assumption) (by kernel_rfl) fun s_ hs_ => ?_
  simp (maxSteps := 10000000) [SX.vc, SX.stop, SX.contS, SX.contB, SX.contW, SX.contR, SX.contD, SX.sxStep, SX.stepPure, SX.stepNew, SX.stepStore, SX.stepKeep, SX.guardIx, SX.evOp, SX.opd, SX.opds, SX.optOpd, SX.look, SX.putS, SX.gobs, SX.AllP, SX.leave, SX.lookC, SX.lookB, SX.lookT, SX.lookN, SX.findK, SX.evBuiltin, SX.ints, SX.foldI, SX.evBin, SX.evInt, SX.evStr, SX.evEq, SX.arith, SX.evLoad, SX.shapeUp, SX.evFieldAddr, SX.evField, SX.evIndexAddr, SX.evIndex, SX.evFill, SX.evBuild, SX.szs, SX.cellsV, SX.evNew, SX.evStore, SX.spliceL, SX.SV.cells, SX.evConv, SX.evSlice, SX.bnd, SX.evNil, SX.evUn, SX.evPick, SX.pickOpd, SX.popTo, SX.cnd, SX.env0, SX.TD.isAgg, SX.TD.isIface, SX.tails, SX.NotAgg, SX.evLookup, SX.evConvH, SX.evPtrEq, SX.isCells, SX.thaw, SX.frz, SX.fixB, SX.rootIx, SX.Froz, SX.frzStep, SX.fork, Go.Value.cells, Go.undef, cfg17, Try.f17, clC, hdn]
  refine ⟨by (unfold SX.Ob; first | trivial | omega | ((try simp only [SX.inK]); (try simp [SX.den, SX.IsU8, *]); (try omega))), ?_⟩
  intro a1 w1 hr1 _
  obtain ⟨sA, hsA⟩ : ∃ x, x = s_ := ⟨_, rfl⟩
  subst hsA
  refine seg cfg17_ok mixed PanicFree.body 1000 [] [] hr1 (by first | trivial | exact HpRep.nil | assumption) (by kernel_rfl) fun s_ hs_ => ?_
  simp (maxSteps := 10000000) [SX.vc, SX.stop, SX.contS, SX.contB, SX.contW, SX.contR, SX.contD, SX.sxStep, SX.stepPure, SX.stepNew, SX.stepStore, SX.stepKeep, SX.guardIx, SX.evOp, SX.opd, SX.opds, SX.optOpd, SX.look, SX.putS, SX.gobs, SX.AllP, SX.leave, SX.lookC, SX.lookB, SX.lookT, SX.lookN, SX.findK, SX.evBuiltin, SX.ints, SX.foldI, SX.evBin, SX.evInt, SX.evStr, SX.evEq, SX.arith, SX.evLoad, SX.shapeUp, SX.evFieldAddr, SX.evField, SX.evIndexAddr, SX.evIndex, SX.evFill, SX.evBuild, SX.szs, SX.cellsV, SX.evNew, SX.evStore, SX.spliceL, SX.SV.cells, SX.evConv, SX.evSlice, SX.bnd, SX.evNil, SX.evUn, SX.evPick, SX.pickOpd, SX.popTo, SX.cnd, SX.env0, SX.TD.isAgg, SX.TD.isIface, SX.tails, SX.NotAgg, SX.evLookup, SX.evConvH, SX.evPtrEq, SX.isCells, SX.thaw, SX.frz, SX.fixB, SX.rootIx, SX.Froz, SX.frzStep, SX.fork, Go.Value.cells, Go.undef, cfg17]
  refine ⟨by (unfold SX.Ob; first | trivial | omega | ((try simp only [SX.inK]); (try simp [SX.den, SX.IsU8, *]); (try omega))), ?_⟩
  intro a2 w2 hr2 _
  refine post_call 21 [.v (.slice da 1 dc)] hr2 (by first | exact wanted_none rfl | exact wanted_zero (hr2.env.same rfl rfl rfl rfl) rfl (by simp)) rfl (callable 21 Try.func21) (clone_ok w2 _ 1 f P (hF.below hr2.keeps.toBelow) (by omega)) ?_
  rintro e w3 ⟨dv, rfl, hF3, hb3⟩
  refine ⟨_, rfl, ?_⟩
  have h3 := hr2.ret hb3 7 (.v dv) rfl _ (hr2.all.below hb3) (by simp) rfl
  have hv3 := hv.keep (h3.keeps.toBelow)
  have hA2 := hr2.all
  have l1 := SO.rep_lt hA2.1.1
  have l2 := SO.rep_lt hA2.2.1.1
  have hz2 : w.heap.size ≤ w2.heap.size := hr2.keeps.size
  rcases hF3 with ⟨h, _⟩ | ⟨_, b, N, cap, u, row, hPb, rfl, hc1, hc2, hrep, hrow⟩
  · omega
  have hA3 := h3.all
  have hf1 : (SO.arr 0 1 (fun _ => finC (f 0)) 11 u (0, 0)).rep w3 b := rep_arr_sub hrep (by omega) fun j hj => by
    obtain rfl : j = 0 := by omega
    rw [(hrow 0 (by omega)).1]
  have hvlt : ∀ y o n c, Value.slice va 1 vc = .slice (some ⟨y, o, none⟩) n c → y ≠ b := by
    intro y o n c e
    cases e
    rcases hv with ⟨h, _⟩ | ⟨_, b', o0, N', cap', u', fz, e, _, hr'⟩
    · omega
    · cases e
      have := SO.rep_lt hr'
      omega
  refine seg cfg17_ok mixed PanicFree.body 1000 [] [] h3.rebase (by first | trivial | exact HpRep.nil | assumption) (by kernel_rfl) fun s_ hs_ => ?_
  simp (maxSteps := 10000000) [SX.vc, SX.stop, SX.contS, SX.contB, SX.contW, SX.contR, SX.contD, SX.sxStep, SX.stepPure, SX.stepNew, SX.stepStore, SX.stepKeep, SX.guardIx, SX.evOp, SX.opd, SX.opds, SX.optOpd, SX.look, SX.putS, SX.gobs, SX.AllP, SX.leave, SX.lookC, SX.lookB, SX.lookT, SX.lookN, SX.findK, SX.evBuiltin, SX.ints, SX.foldI, SX.evBin, SX.evInt, SX.evStr, SX.evEq, SX.arith, SX.evLoad, SX.shapeUp, SX.evFieldAddr, SX.evField, SX.evIndexAddr, SX.evIndex, SX.evFill, SX.evBuild, SX.szs, SX.cellsV, SX.evNew, SX.evStore, SX.spliceL, SX.SV.cells, SX.evConv, SX.evSlice, SX.bnd, SX.evNil, SX.evUn, SX.evPick, SX.pickOpd, SX.popTo, SX.cnd, SX.env0, SX.TD.isAgg, SX.TD.isIface, SX.tails, SX.NotAgg, SX.evLookup, SX.evConvH, SX.evPtrEq, SX.isCells, SX.thaw, SX.frz, SX.fixB, SX.rootIx, SX.Froz, SX.frzStep, SX.fork, Go.Value.cells, Go.undef, cfg17]
  refine ⟨by (unfold SX.Ob; first | trivial | omega | ((try simp only [SX.inK]); (try simp [SX.den, SX.IsU8, *]); (try omega))), ?_⟩
  intro a5 w5 hr5' _
  have hr5 := h3.unbase hr5'
  have hz3 : w2.heap.size ≤ w3.heap.size := hb3.size
  have hf5 : (SO.arr 0 1 (fun _ => finC (f 0)) 11 u (0, 0)).rep w5 b := SO.rep_same hf1 (hr5'.old (SO.rep_lt hf1) (by simp [mutB]; omega))
  have hA5 := hr5.all
  have hv5 := hv.keep (hr5.keeps.toBelow)
  have hz5 : w3.heap.size ≤ w5.heap.size := hr5'.keeps.size
  by_cases hx : (f 0).id = x
  · have hD : Calls Try.prog 29 (denL [.v (.slice (some ⟨b, 0, none⟩) 1 cap), .fn (.func 30) [] [.ptr 1 (sA + 1) 0]]).toArray w5 fun e w' => e = .returned (den (.sl 0 b 0 0 1 cap 11)) ∧ Below w5.heap.size w5 w' := by
      have := del_keep w5 (f 0) b cap (sA + 1) u (.slice va 1 vc) x hd hf5 hA5.2.1.1 (by omega) ⟨va, vc, rfl⟩ hv5 hx
      simpa [denL, den] using this
    refine post_call 29 [.v (.slice (some ⟨b, 0, none⟩) 1 cap), .fn (.func 30) [] [.ptr 1 (sA + 1) 0]] hr5 (by first | exact wanted_none rfl | exact wanted_zero (hr5.env.same rfl rfl rfl rfl) rfl (by simp)) rfl (callable 29 Try.func29) (hD) ?_
    rintro e w6 ⟨rfl, hb6⟩
    refine ⟨_, rfl, ?_⟩
    have h6 := hr5.ret hb6 9 (.sl 2 b 0 0 1 cap 11) rfl _ (hr5.all.below hb6) (by simp) rfl
    have hf6 := SO.rep_same hf5 (hb6.block _ (SO.rep_lt hf5))
    refine seg cfg17_ok mixed PanicFree.body 1000 [] [] h6.rebase (by first | trivial | exact HpRep.nil | assumption) (by kernel_rfl) fun s_ hs_ => ?_
    simp (maxSteps := 10000000) [SX.vc, SX.stop, SX.contS, SX.contB, SX.contW, SX.contR, SX.contD, SX.sxStep, SX.stepPure, SX.stepNew, SX.stepStore, SX.stepKeep, SX.guardIx, SX.evOp, SX.opd, SX.opds, SX.optOpd, SX.look, SX.putS, SX.gobs, SX.AllP, SX.leave, SX.lookC, SX.lookB, SX.lookT, SX.lookN, SX.findK, SX.evBuiltin, SX.ints, SX.foldI, SX.evBin, SX.evInt, SX.evStr, SX.evEq, SX.arith, SX.evLoad, SX.shapeUp, SX.evFieldAddr, SX.evField, SX.evIndexAddr, SX.evIndex, SX.evFill, SX.evBuild, SX.szs, SX.cellsV, SX.evNew, SX.evStore, SX.spliceL, SX.SV.cells, SX.evConv, SX.evSlice, SX.bnd, SX.evNil, SX.evUn, SX.evPick, SX.pickOpd, SX.popTo, SX.cnd, SX.env0, SX.TD.isAgg, SX.TD.isIface, SX.tails, SX.NotAgg, SX.evLookup, SX.evConvH, SX.evPtrEq, SX.isCells, SX.thaw, SX.frz, SX.fixB, SX.rootIx, SX.Froz, SX.frzStep, SX.fork, Go.Value.cells, Go.undef, cfg17]
    refine ⟨by (unfold SX.Ob; first | trivial | omega | ((try simp only [SX.inK]); (try simp [SX.den, SX.IsU8, *]); (try omega))), ?_⟩
    intro a7 w7 hr7' _
    have hr7 := h6.unbase hr7'
    have hz6 : w5.heap.size ≤ w6.heap.size := hb6.size
    have hf7 := SO.rep_same (SO.rep_same (SO.rep_same hrep (hr5'.old (SO.rep_lt hf1) (by simp [mutB]; omega))) (hb6.block _ (SO.rep_lt hf5))) (hr7'.old (SO.rep_lt hf6) (by simp [mutB]; omega))
    exact post_retn (end1 hr7 rfl rfl (.inl ⟨⟨hx, _, rfl, .inr ⟨by omega, b, N, cap, u, row, by omega, by simp [den], hc1, hc2, hf7, hrow⟩⟩, hr7.keeps.toBelow⟩)).1
  · have hD : Calls Try.prog 29 (denL [.v (.slice (some ⟨b, 0, none⟩) 1 cap), .fn (.func 30) [] [.ptr 1 (sA + 1) 0]]).toArray w5 fun e w' => e = .returned (den (.sl 0 b 0 0 0 cap 11)) ∧ KeepsTo w5 [b] w' := by
      have := del_out w5 (f 0) b cap (sA + 1) u (.slice va 1 vc) x hd hf5 hA5.2.1.1 (by omega) ⟨va, vc, rfl⟩ hv5 hx (by omega) hvlt
      simpa [denL, den] using this
    refine post_call 29 [.v (.slice (some ⟨b, 0, none⟩) 1 cap), .fn (.func 30) [] [.ptr 1 (sA + 1) 0]] hr5 (wanted_none rfl) rfl (callable 29 Try.func29) hD ?_
    rintro e w6 ⟨rfl, hk6⟩
    refine ⟨_, rfl, ?_⟩
    have h6 := hr5.retK hk6 (by simp [frame0]; omega) 9 (.v (.slice (some ⟨b, 0, none⟩) 0 cap)) (v := den (.sl 0 b 0 0 0 cap 11)) (by simp [den]) _ (HpAll.to hk6 hr5.all (by simp; omega)) (by simp) rfl
    refine seg cfg17_ok mixed PanicFree.body 1000 [] [] h6 (by first | trivial | exact HpRep.nil | assumption) (by kernel_rfl) fun s_ hs_ => ?_
    simp (maxSteps := 10000000) [SX.vc, SX.stop, SX.contS, SX.contB, SX.contW, SX.contR, SX.contD, SX.sxStep, SX.stepPure, SX.stepNew, SX.stepStore, SX.stepKeep, SX.guardIx, SX.evOp, SX.opd, SX.opds, SX.optOpd, SX.look, SX.putS, SX.gobs, SX.AllP, SX.leave, SX.lookC, SX.lookB, SX.lookT, SX.lookN, SX.findK, SX.evBuiltin, SX.ints, SX.foldI, SX.evBin, SX.evInt, SX.evStr, SX.evEq, SX.arith, SX.evLoad, SX.shapeUp, SX.evFieldAddr, SX.evField, SX.evIndexAddr, SX.evIndex, SX.evFill, SX.evBuild, SX.szs, SX.cellsV, SX.evNew, SX.evStore, SX.spliceL, SX.SV.cells, SX.evConv, SX.evSlice, SX.bnd, SX.evNil, SX.evUn, SX.evPick, SX.pickOpd, SX.popTo, SX.cnd, SX.env0, SX.TD.isAgg, SX.TD.isIface, SX.tails, SX.NotAgg, SX.evLookup, SX.evConvH, SX.evPtrEq, SX.isCells, SX.thaw, SX.frz, SX.fixB, SX.rootIx, SX.Froz, SX.frzStep, SX.fork, Go.Value.cells, Go.undef, cfg17]
    refine ⟨by (unfold SX.Ob; first | trivial | omega | ((try simp only [SX.inK]); (try simp [SX.den, SX.IsU8, *]); (try omega))), ?_⟩
    intro a7 w7 hr7 _
    exact post_retn (end1 hr7 rfl rfl (.inr ⟨⟨hx, _, _, rfl⟩, hr7.keeps.toBelow⟩)).1
end Go.Proofs
