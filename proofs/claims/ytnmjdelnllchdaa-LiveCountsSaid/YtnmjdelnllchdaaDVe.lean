/- Live: what a zone has (live.In). -/
import Derived.Test.YtnmjdelnllchdaaDVd
import Derived.Test.YtnmjdelnllchdaaDW
import Derived.Test.YtnmjdelnllchdaaDG
namespace Go.Proofs
set_option linter.unusedVariables false
set_option linter.unusedSimpArgs false
set_option linter.unusedSectionVars false
open Go Go.SX Go.RowKit

set_option maxRecDepth 100000 in
set_option maxHeartbeats 4000000 in
theorem zone34_ok (w : World) (x : Ext) (c3 : Nat) (z : Int) (hc : (SO.cells [.v (.int .i64 z)] 3).rep w c3) : Calls Try.prog 34 (denL [.ag (extC x), .ptr 0 c3 0]).toArray w (Ret w (.v (.bool (decide (x.zone ≠ z))))) := by
  refine enter (F := frame0 w) Try.func34 rfl [.ag (extC x), .ptr 0 c3 0] [(c3, false, .cells [.v (.int .i64 z)] 3)] (by simp [Try.f34]) (HpAll.one hc) (keeps0 w) fun a hr => ?_
  refine seg cfg34_ok mixed PanicFree.body 1000 [] [] hr (by first | trivial | exact HpRep.nil | assumption) (by kernel_rfl) fun s_ hs_ => ?_
  simp (maxSteps := 10000000) [SX.vc, SX.stop, SX.contS, SX.contB, SX.contW, SX.contR, SX.contD, SX.sxStep, SX.stepPure, SX.stepNew, SX.stepStore, SX.stepKeep, SX.guardIx, SX.evOp, SX.opd, SX.opds, SX.optOpd, SX.look, SX.putS, SX.gobs, SX.AllP, SX.leave, SX.lookC, SX.lookB, SX.lookT, SX.lookN, SX.findK, SX.evBuiltin, SX.ints, SX.foldI, SX.evBin, SX.evInt, SX.evStr, SX.evEq, SX.arith, SX.evLoad, SX.shapeUp, SX.evFieldAddr, SX.evField, SX.evIndexAddr, SX.evIndex, SX.evFill, SX.evBuild, SX.szs, SX.cellsV, SX.evNew, SX.evStore, SX.spliceL, SX.SV.cells, SX.evConv, SX.evSlice, SX.bnd, SX.evNil, SX.evUn, SX.evPick, SX.pickOpd, SX.popTo, SX.cnd, SX.env0, SX.TD.isAgg, SX.TD.isIface, SX.tails, SX.NotAgg, SX.evLookup, SX.evConvH, SX.evPtrEq, SX.isCells, SX.thaw, SX.frz, SX.fixB, SX.rootIx, SX.Froz, SX.frzStep, SX.fork, Go.Value.cells, Go.undef, cfg34, Try.f34, extC]
  refine ⟨by (unfold SX.Ob; first | trivial | omega | ((try simp only [SX.inK]); (try simp [SX.den, SX.IsU8, SX.AllP, *]); (try omega))), ?_⟩
  intro a1 w1 hr1 _
  exact post_retn (end1 hr1 rfl rfl ⟨rfl, hr1.keeps.toBelow⟩).1

/-- What a zone has. -/
def InL (L : List Ext) (z : Int) : List Ext := keepL (fun x => decide (x.zone ≠ z)) L
def InR (w : World) (L : List Ext) (z : Int) (e : Ending) (w' : World) : Prop := ∃ v M, e = .returned (den (.tu [.v v, .v (.int .i64 0)])) ∧ M.Perm (InL L z) ∧ SrtE M ∧ RdE (fun x => w.heap.size ≤ x) w' v M ∧ Below w.heap.size w w'

theorem keepL_len (q : Ext → Bool) (L : List Ext) : (keepL q L).length ≤ L.length := List.length_filter_le _ _

set_option maxRecDepth 100000 in
set_option maxHeartbeats 8000000 in
theorem In_ok {P : Nat → Prop} (w : World) (v : Value) (L : List Ext) (z : Int) (hL : RdE P w v L) (hn : L.length ≤ 1000) (hC : Chk L) (hz : 0 ≤ z) : Calls Try.prog 19 (denL [.v v, .v (.int .i64 z)]).toArray w (InR w L z) := by
  obtain ⟨ad, cp, rfl⟩ := hL.slice
  have hc0 : chkE L = 0 := if_pos hC
  have hz0 : ¬ z < 0 := by omega
  refine enter (F := frame0 w) Try.func19 rfl [.v (.slice ad L.length cp), .v (.int .i64 z)] [] (by simp [Try.f19]) trivial (keeps0 w) fun a hr => ?_
  refine seg cfg19_ok mixed PanicFree.body 1000 [] [(9, false)] hr (by first | trivial | exact HpRep.nil | assumption) (by kernel_rfl) fun sX hsX => ?_
  simp (maxSteps := 10000000) [SX.vc, SX.stop, SX.contS, SX.contB, SX.contW, SX.contR, SX.contD, SX.sxStep, SX.stepPure, SX.stepNew, SX.stepStore, SX.stepKeep, SX.guardIx, SX.evOp, SX.opd, SX.opds, SX.optOpd, SX.look, SX.putS, SX.gobs, SX.AllP, SX.leave, SX.lookC, SX.lookB, SX.lookT, SX.lookN, SX.findK, SX.evBuiltin, SX.ints, SX.foldI, SX.evBin, SX.evInt, SX.evStr, SX.evEq, SX.arith, SX.evLoad, SX.shapeUp, SX.evFieldAddr, SX.evField, SX.evIndexAddr, SX.evIndex, SX.evFill, SX.evBuild, SX.szs, SX.cellsV, SX.evNew, SX.evStore, SX.spliceL, SX.SV.cells, SX.evConv, SX.evSlice, SX.bnd, SX.evNil, SX.evUn, SX.evPick, SX.pickOpd, SX.popTo, SX.cnd, SX.env0, SX.TD.isAgg, SX.TD.isIface, SX.tails, SX.NotAgg, SX.evLookup, SX.evConvH, SX.evPtrEq, SX.isCells, SX.thaw, SX.frz, SX.fixB, SX.rootIx, SX.Froz, SX.frzStep, SX.fork, Go.Value.cells, Go.undef, cfg19, Try.f19, hz0]
  refine ⟨by (unfold SX.Ob; first | trivial | omega | ((try simp only [SX.inK]); (try simp [SX.den, SX.IsU8, SX.AllP, *]); (try omega))), ?_⟩
  intro a1 w1 hr1 _
  refine post_call 27 [.v (.slice ad L.length cp)] hr1 (by first | exact wanted_none rfl | exact wanted_zero (hr1.env.same rfl rfl rfl rfl) rfl (by simp) | exact wanted_zero (hr1.env.same rfl rfl rfl rfl) rfl (by simp [*])) rfl (callable 27 Try.func27) (check_ok w1 _ L (hL.below hr1.keeps.toBelow) (by omega)) ?_
  rintro e2 w2 ⟨rfl, hb2⟩
  refine ⟨_, rfl, ?_⟩
  have h2 := hr1.ret hb2 11 (.v (.int .i64 (chkE L))) rfl _ (hr1.all.below hb2) (by simp) rfl
  refine seg cfg19_ok mixed PanicFree.body 1000 [false] [] h2 (by first | trivial | exact HpRep.nil | assumption) (by kernel_rfl) fun s_ hs_ => ?_
  simp (maxSteps := 10000000) [SX.vc, SX.stop, SX.contS, SX.contB, SX.contW, SX.contR, SX.contD, SX.sxStep, SX.stepPure, SX.stepNew, SX.stepStore, SX.stepKeep, SX.guardIx, SX.evOp, SX.opd, SX.opds, SX.optOpd, SX.look, SX.putS, SX.gobs, SX.AllP, SX.leave, SX.lookC, SX.lookB, SX.lookT, SX.lookN, SX.findK, SX.evBuiltin, SX.ints, SX.foldI, SX.evBin, SX.evInt, SX.evStr, SX.evEq, SX.arith, SX.evLoad, SX.shapeUp, SX.evFieldAddr, SX.evField, SX.evIndexAddr, SX.evIndex, SX.evFill, SX.evBuild, SX.szs, SX.cellsV, SX.evNew, SX.evStore, SX.spliceL, SX.SV.cells, SX.evConv, SX.evSlice, SX.bnd, SX.evNil, SX.evUn, SX.evPick, SX.pickOpd, SX.popTo, SX.cnd, SX.env0, SX.TD.isAgg, SX.TD.isIface, SX.tails, SX.NotAgg, SX.evLookup, SX.evConvH, SX.evPtrEq, SX.isCells, SX.thaw, SX.frz, SX.fixB, SX.rootIx, SX.Froz, SX.frzStep, SX.fork, Go.Value.cells, Go.undef, cfg19, hc0, hz0]
  refine ⟨by (unfold SX.Ob; first | trivial | omega | ((try simp only [SX.inK]); (try simp [SX.den, SX.IsU8, SX.AllP, *]); (try omega))), ?_⟩
  intro a3 w3 hr3 _
  refine post_call 33 [.v (.slice ad L.length cp)] hr3 (by first | exact wanted_none rfl | exact wanted_zero (hr3.env.same rfl rfl rfl rfl) rfl (by simp) | exact wanted_zero (hr3.env.same rfl rfl rfl rfl) rfl (by simp [*])) rfl (callable 33 Try.func33) (clone_all w3 _ L (hL.below hr3.keeps.toBelow) (by omega)) ?_
  rintro e4 w4 ⟨vo, rfl, hO4, hb4⟩
  refine ⟨_, rfl, ?_⟩
  have h4 := hr3.ret hb4 15 (.v vo) rfl _ (hr3.all.below hb4) (by simp) rfl
  obtain ⟨ad4, cp4, rfl⟩ := hO4.slice
  have hX3 : sX < w3.heap.size := SO.rep_lt hr3.all.1.1
  refine seg cfg19_ok mixed PanicFree.body 1000 [] [] h4.rebase (by first | trivial | exact HpRep.nil | assumption) (by kernel_rfl) fun s_ hs_ => ?_
  simp (maxSteps := 10000000) [SX.vc, SX.stop, SX.contS, SX.contB, SX.contW, SX.contR, SX.contD, SX.sxStep, SX.stepPure, SX.stepNew, SX.stepStore, SX.stepKeep, SX.guardIx, SX.evOp, SX.opd, SX.opds, SX.optOpd, SX.look, SX.putS, SX.gobs, SX.AllP, SX.leave, SX.lookC, SX.lookB, SX.lookT, SX.lookN, SX.findK, SX.evBuiltin, SX.ints, SX.foldI, SX.evBin, SX.evInt, SX.evStr, SX.evEq, SX.arith, SX.evLoad, SX.shapeUp, SX.evFieldAddr, SX.evField, SX.evIndexAddr, SX.evIndex, SX.evFill, SX.evBuild, SX.szs, SX.cellsV, SX.evNew, SX.evStore, SX.spliceL, SX.SV.cells, SX.evConv, SX.evSlice, SX.bnd, SX.evNil, SX.evUn, SX.evPick, SX.pickOpd, SX.popTo, SX.cnd, SX.env0, SX.TD.isAgg, SX.TD.isIface, SX.tails, SX.NotAgg, SX.evLookup, SX.evConvH, SX.evPtrEq, SX.isCells, SX.thaw, SX.frz, SX.fixB, SX.rootIx, SX.Froz, SX.frzStep, SX.fork, Go.Value.cells, Go.undef, cfg19]
  refine ⟨by (unfold SX.Ob; first | trivial | omega | ((try simp only [SX.inK]); (try simp [SX.den, SX.IsU8, SX.AllP, *]); (try omega))), ?_⟩
  intro a5 w5 hr5' _
  have hr5 := h4.unbase hr5'
  have hO5 := hO4.keep hr5'.keeps (by simp [frameAt, mutB]; omega)
  obtain ⟨K, hK⟩ : ∃ K, K = keepL (fun x => decide (x.zone ≠ z)) L := ⟨_, rfl⟩
  have hde : Calls Try.prog 32 (denL [.v (.slice ad4 L.length cp4), .fn (.func 34) [] [.ptr 0 sX 0]]).toArray w5 (DelR (fun x => w3.heap.size ≤ x) w5 K) := by
    rw [hK]
    exact delf_ok 34 (callable 34 Try.func34) w5 _ L (fun x => decide (x.zone ≠ z)) sX hO5 (by omega) (fun w' => (SO.cells [.v (.int .i64 z)] 3).rep w' sX) (fun w1 w2 B h1 hkB hB => hkB.same h1 (fun hm => absurd (hB _ hm) (by omega))) hr5.all.1.1 (fun w' x h => zone34_ok w' x sX z h)
  refine post_call 32 [.v (.slice ad4 L.length cp4), .fn (.func 34) [] [.ptr 0 sX 0]] hr5 (wanted_none rfl) rfl (callable 32 Try.func32) hde ?_
  rintro e6 w6 ⟨v6, B6, rfl, hO6, hB6, hk6⟩
  refine ⟨_, rfl, ?_⟩
  obtain ⟨ad6, cp6, rfl⟩ := hO6.slice
  have hsz3 : w.heap.size ≤ w3.heap.size := hr3.keeps.size
  have h6 := hr5.retK hk6 (fun y hy => .inl (show w.heap.size ≤ y by have := (hB6 y hy).1; omega)) 17 (.v (.slice ad6 K.length cp6)) rfl [] trivial (by simp) rfl
  have hKl : K.length ≤ 1000000 := by rw [hK]; have := keepL_len (fun x => decide (x.zone ≠ z)) L; omega
  refine seg cfg19_ok mixed PanicFree.body 1000 [] [] h6.rebase (by first | trivial | exact HpRep.nil | assumption) (by kernel_rfl) fun s_ hs_ => ?_
  simp (maxSteps := 10000000) [SX.vc, SX.stop, SX.contS, SX.contB, SX.contW, SX.contR, SX.contD, SX.sxStep, SX.stepPure, SX.stepNew, SX.stepStore, SX.stepKeep, SX.guardIx, SX.evOp, SX.opd, SX.opds, SX.optOpd, SX.look, SX.putS, SX.gobs, SX.AllP, SX.leave, SX.lookC, SX.lookB, SX.lookT, SX.lookN, SX.findK, SX.evBuiltin, SX.ints, SX.foldI, SX.evBin, SX.evInt, SX.evStr, SX.evEq, SX.arith, SX.evLoad, SX.shapeUp, SX.evFieldAddr, SX.evField, SX.evIndexAddr, SX.evIndex, SX.evFill, SX.evBuild, SX.szs, SX.cellsV, SX.evNew, SX.evStore, SX.spliceL, SX.SV.cells, SX.evConv, SX.evSlice, SX.bnd, SX.evNil, SX.evUn, SX.evPick, SX.pickOpd, SX.popTo, SX.cnd, SX.env0, SX.TD.isAgg, SX.TD.isIface, SX.tails, SX.NotAgg, SX.evLookup, SX.evConvH, SX.evPtrEq, SX.isCells, SX.thaw, SX.frz, SX.fixB, SX.rootIx, SX.Froz, SX.frzStep, SX.fork, Go.Value.cells, Go.undef, cfg19]
  refine ⟨by (unfold SX.Ob; first | trivial | omega | ((try simp only [SX.inK]); (try simp [SX.den, SX.IsU8, SX.AllP, *]); (try omega))), ?_⟩
  intro a7 w7 hr7' _
  have hr7 := h6.unbase hr7'
  have hO7 := hO6.keep hr7'.keeps (by simp [frameAt, mutB])
  refine post_call 35 [.v (.slice ad6 K.length cp6), .fn (.func 36) [] []] hr7 (wanted_none rfl) rfl (callable 35 Try.func35) (sort_ok w7 _ K hO7 hKl) ?_
  rintro e8 w8 ⟨M, B8, rfl, hMp, hMs, hO8, hB8, hk8⟩
  refine ⟨_, rfl, ?_⟩
  have h8 := hr7.retK hk8 (fun y hy => .inl (show w.heap.size ≤ y by have := (hB8 y hy).1; omega)) 19 (.tu []) rfl [] trivial (by simp) rfl
  refine seg cfg19_ok mixed PanicFree.body 1000 [] [] h8.rebase (by first | trivial | exact HpRep.nil | assumption) (by kernel_rfl) fun s_ hs_ => ?_
  simp (maxSteps := 10000000) [SX.vc, SX.stop, SX.contS, SX.contB, SX.contW, SX.contR, SX.contD, SX.sxStep, SX.stepPure, SX.stepNew, SX.stepStore, SX.stepKeep, SX.guardIx, SX.evOp, SX.opd, SX.opds, SX.optOpd, SX.look, SX.putS, SX.gobs, SX.AllP, SX.leave, SX.lookC, SX.lookB, SX.lookT, SX.lookN, SX.findK, SX.evBuiltin, SX.ints, SX.foldI, SX.evBin, SX.evInt, SX.evStr, SX.evEq, SX.arith, SX.evLoad, SX.shapeUp, SX.evFieldAddr, SX.evField, SX.evIndexAddr, SX.evIndex, SX.evFill, SX.evBuild, SX.szs, SX.cellsV, SX.evNew, SX.evStore, SX.spliceL, SX.SV.cells, SX.evConv, SX.evSlice, SX.bnd, SX.evNil, SX.evUn, SX.evPick, SX.pickOpd, SX.popTo, SX.cnd, SX.env0, SX.TD.isAgg, SX.TD.isIface, SX.tails, SX.NotAgg, SX.evLookup, SX.evConvH, SX.evPtrEq, SX.isCells, SX.thaw, SX.frz, SX.fixB, SX.rootIx, SX.Froz, SX.frzStep, SX.fork, Go.Value.cells, Go.undef, cfg19]
  refine ⟨by (unfold SX.Ob; first | trivial | omega | ((try simp only [SX.inK]); (try simp [SX.den, SX.IsU8, SX.AllP, *]); (try omega))), ?_⟩
  intro a9 w9 hr9' _
  have hr9 := h8.unbase hr9'
  have hO9 := hO8.keep hr9'.keeps (by simp [frameAt, mutB])
  exact post_retn (end2 hr9 rfl rfl rfl ⟨_, M, rfl, by rw [InL, ← hK]; exact hMp, hMs, (hO9.rd).mono (fun y _ hy => by omega), hr9.keeps.toBelow⟩).1
end Go.Proofs
