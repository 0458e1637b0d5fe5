/- The client: whether messages are the same (they are). -/
import Derived.Test.YtjkecmgobcppiaaKF
namespace Go.Proofs
set_option linter.unusedVariables false
set_option linter.unusedSimpArgs false
open Go Go.SX Go.RowKit

def TruePost (w : World) (e : Ending) (w' : World) : Prop := e = .returned (.bool true) ∧ Below w.heap.size w w'

set_option maxRecDepth 100000 in
set_option maxHeartbeats 8000000 in
theorem sameMsg_nil (w : World) (kd fr to id : Int) (n b1 o1 N1 c1 b2 o2 N2 c2 : Nat) (u1 u2 : TypeId) (z1 z2 : Nat × Nat) (g h : Nat → Int) (hne : b1 ≠ b2) (hn1 : n ≤ N1) (hn2 : n ≤ N2) (hn : n ≤ 9223372036854775807)
    (r1 : (SO.arr o1 N1 (fun j => [.v (.int .i64 (g j))]) 1 u1 z1).rep w b1) (r2 : (SO.arr o2 N2 (fun j => [.v (.int .i64 (h j))]) 1 u2 z2).rep w b2) (hs : ∀ j, j < n → g j = h j) :
    Calls Try.prog 15 (denL [.ag (msgC kd fr to id (.slice (some ⟨b1, o1, none⟩) n c1) (.slice none 0 0)), .ag (msgC kd fr to id (.slice (some ⟨b2, o2, none⟩) n c2) (.slice none 0 0))]).toArray w (TruePost w) := by
  refine enter (F := frame0 w) Try.func15 rfl [.ag (msgC kd fr to id (.slice (some ⟨b1, o1, none⟩) n c1) (.slice none 0 0)), .ag (msgC kd fr to id (.slice (some ⟨b2, o2, none⟩) n c2) (.slice none 0 0))] [] (by simp [Try.f15]) trivial (keeps0 w) fun a hr => ?_
  refine seg cfg15_ok mixed PanicFree.body 5 [] [] hr (by first | trivial | exact HpRep.nil | assumption) (by kernel_rfl) fun s_ hs_ => ?_
  simp (maxSteps := 10000000) [SX.vc, SX.stop, SX.contS, SX.contB, SX.contW, SX.contR, SX.contD, SX.sxStep, SX.stepPure, SX.stepNew, SX.stepStore, SX.stepKeep, SX.guardIx, SX.evOp, SX.opd, SX.opds, SX.optOpd, SX.look, SX.putS, SX.gobs, SX.AllP, SX.leave, SX.lookC, SX.lookB, SX.lookT, SX.lookN, SX.findK, SX.evBuiltin, SX.ints, SX.foldI, SX.evBin, SX.evInt, SX.evStr, SX.evEq, SX.arith, SX.evLoad, SX.shapeUp, SX.evFieldAddr, SX.evField, SX.evIndexAddr, SX.evIndex, SX.evFill, SX.evBuild, SX.szs, SX.cellsV, SX.evNew, SX.evStore, SX.spliceL, SX.SV.cells, SX.evConv, SX.evSlice, SX.bnd, SX.evNil, SX.evUn, SX.evPick, SX.pickOpd, SX.popTo, SX.cnd, SX.env0, SX.TD.isAgg, SX.TD.isIface, SX.tails, SX.NotAgg, SX.evLookup, SX.evConvH, SX.evPtrEq, SX.isCells, SX.thaw, SX.frz, SX.fixB, SX.rootIx, SX.Froz, SX.frzStep, SX.fork, Go.Value.cells, Go.undef, cfg15, Try.f15, msgC]
  refine ⟨by (unfold SX.Ob; first | trivial | omega | ((try simp only [SX.inK]); (try simp [SX.den, SX.IsU8, *]); (try omega))), ?_⟩
  intro a1 w1 hr1 _
  refine seg cfg15_ok mixed PanicFree.body 16 [] [(10, true), (17, true), (24, true), (31, true), (38, true)] hr1 (by first | trivial | exact HpRep.nil | assumption) (by kernel_rfl) fun s_ hs_ => ?_
  simp (maxSteps := 10000000) [SX.vc, SX.stop, SX.contS, SX.contB, SX.contW, SX.contR, SX.contD, SX.sxStep, SX.stepPure, SX.stepNew, SX.stepStore, SX.stepKeep, SX.guardIx, SX.evOp, SX.opd, SX.opds, SX.optOpd, SX.look, SX.putS, SX.gobs, SX.AllP, SX.leave, SX.lookC, SX.lookB, SX.lookT, SX.lookN, SX.findK, SX.evBuiltin, SX.ints, SX.foldI, SX.evBin, SX.evInt, SX.evStr, SX.evEq, SX.arith, SX.evLoad, SX.shapeUp, SX.evFieldAddr, SX.evField, SX.evIndexAddr, SX.evIndex, SX.evFill, SX.evBuild, SX.szs, SX.cellsV, SX.evNew, SX.evStore, SX.spliceL, SX.SV.cells, SX.evConv, SX.evSlice, SX.bnd, SX.evNil, SX.evUn, SX.evPick, SX.pickOpd, SX.popTo, SX.cnd, SX.env0, SX.TD.isAgg, SX.TD.isIface, SX.tails, SX.NotAgg, SX.evLookup, SX.evConvH, SX.evPtrEq, SX.isCells, SX.thaw, SX.frz, SX.fixB, SX.rootIx, SX.Froz, SX.frzStep, SX.fork, Go.Value.cells, Go.undef, cfg15]
  refine ⟨by (unfold SX.Ob; first | trivial | omega | ((try simp only [SX.inK]); (try simp [SX.den, SX.IsU8, *]); (try omega))), ?_⟩
  intro a2 w2 hr2 _
  refine seg cfg15_ok mixed PanicFree.body 1000 [] [(10, true), (17, true), (24, true), (31, true), (38, true)] hr2 (by first | trivial | exact HpRep.nil | assumption) (by kernel_rfl) fun s_ hs_ => ?_
  simp (maxSteps := 10000000) [SX.vc, SX.stop, SX.contS, SX.contB, SX.contW, SX.contR, SX.contD, SX.sxStep, SX.stepPure, SX.stepNew, SX.stepStore, SX.stepKeep, SX.guardIx, SX.evOp, SX.opd, SX.opds, SX.optOpd, SX.look, SX.putS, SX.gobs, SX.AllP, SX.leave, SX.lookC, SX.lookB, SX.lookT, SX.lookN, SX.findK, SX.evBuiltin, SX.ints, SX.foldI, SX.evBin, SX.evInt, SX.evStr, SX.evEq, SX.arith, SX.evLoad, SX.shapeUp, SX.evFieldAddr, SX.evField, SX.evIndexAddr, SX.evIndex, SX.evFill, SX.evBuild, SX.szs, SX.cellsV, SX.evNew, SX.evStore, SX.spliceL, SX.SV.cells, SX.evConv, SX.evSlice, SX.bnd, SX.evNil, SX.evUn, SX.evPick, SX.pickOpd, SX.popTo, SX.cnd, SX.env0, SX.TD.isAgg, SX.TD.isIface, SX.tails, SX.NotAgg, SX.evLookup, SX.evConvH, SX.evPtrEq, SX.isCells, SX.thaw, SX.frz, SX.fixB, SX.rootIx, SX.Froz, SX.frzStep, SX.fork, Go.Value.cells, Go.undef, cfg15]
  refine ⟨by (unfold SX.Ob; first | trivial | omega | ((try simp only [SX.inK]); (try simp [SX.den, SX.IsU8, *]); (try omega))), ?_⟩
  intro a3 w3 hr3 _
  have r1' := SO.rep_same r1 (hr3.keeps.block _ (SO.rep_lt r1) (by simp [frame0]))
  have r2' := SO.rep_same r2 (hr3.keeps.block _ (SO.rep_lt r2) (by simp [frame0]))
  refine post_call 18 [.v (.slice (some ⟨b1, o1, none⟩) n c1), .v (.slice (some ⟨b2, o2, none⟩) n c2)] hr3 (wanted_zero (hr3.env.same rfl rfl rfl rfl) rfl (by simp)) rfl (callable 18 Try.func18) (same_some w3 n b1 o1 N1 c1 b2 o2 N2 c2 u1 u2 z1 z2 g h hne hn1 hn2 hn r1' r2') ?_
  rintro e w4 ⟨t, rfl, ht, hb4⟩
  have ht' : t = true := ht.2 ⟨rfl, hs⟩
  subst ht'
  refine ⟨_, rfl, ?_⟩
  have h4 := hr3.ret hb4 36 (.v (.bool true)) rfl _ (hr3.all.below hb4) (by simp) rfl
  refine seg cfg15_ok mixed PanicFree.body 1000 [] [(31, true), (38, true)] h4 (by first | trivial | exact HpRep.nil | assumption) (by kernel_rfl) fun s_ hs_ => ?_
  simp (maxSteps := 10000000) [SX.vc, SX.stop, SX.contS, SX.contB, SX.contW, SX.contR, SX.contD, SX.sxStep, SX.stepPure, SX.stepNew, SX.stepStore, SX.stepKeep, SX.guardIx, SX.evOp, SX.opd, SX.opds, SX.optOpd, SX.look, SX.putS, SX.gobs, SX.AllP, SX.leave, SX.lookC, SX.lookB, SX.lookT, SX.lookN, SX.findK, SX.evBuiltin, SX.ints, SX.foldI, SX.evBin, SX.evInt, SX.evStr, SX.evEq, SX.arith, SX.evLoad, SX.shapeUp, SX.evFieldAddr, SX.evField, SX.evIndexAddr, SX.evIndex, SX.evFill, SX.evBuild, SX.szs, SX.cellsV, SX.evNew, SX.evStore, SX.spliceL, SX.SV.cells, SX.evConv, SX.evSlice, SX.bnd, SX.evNil, SX.evUn, SX.evPick, SX.pickOpd, SX.popTo, SX.cnd, SX.env0, SX.TD.isAgg, SX.TD.isIface, SX.tails, SX.NotAgg, SX.evLookup, SX.evConvH, SX.evPtrEq, SX.isCells, SX.thaw, SX.frz, SX.fixB, SX.rootIx, SX.Froz, SX.frzStep, SX.fork, Go.Value.cells, Go.undef, cfg15]
  refine ⟨by (unfold SX.Ob; first | trivial | omega | ((try simp only [SX.inK]); (try simp [SX.den, SX.IsU8, *]); (try omega))), ?_⟩
  intro a5 w5 hr5 _
  exact post_retn (end1 hr5 rfl rfl ⟨rfl, hr5.keeps.toBelow⟩).1
set_option maxRecDepth 100000 in
set_option maxHeartbeats 8000000 in
theorem sameMsg_byte (w : World) (kd fr to id : Int) (n b1 o1 N1 c1 b2 o2 N2 c2 : Nat) (u1 u2 : TypeId) (z1 z2 : Nat × Nat) (g h : Nat → Int) (hne : b1 ≠ b2) (hn1 : n ≤ N1) (hn2 : n ≤ N2) (hn : n ≤ 9223372036854775807)
    (r1 : (SO.arr o1 N1 (fun j => [.v (.int .i64 (g j))]) 1 u1 z1).rep w b1) (r2 : (SO.arr o2 N2 (fun j => [.v (.int .i64 (h j))]) 1 u2 z2).rep w b2) (hs : ∀ j, j < n → g j = h j) (d1 d2 : Nat) (y : Int) (v1 v2 : TypeId) (f1 f2 : Nat × Nat) (hdd : d1 ≠ d2) (q1 : (SO.arr 0 1 (fun _ => [.v (.int .u8 y)]) 1 v1 f1).rep w d1) (q2 : (SO.arr 0 1 (fun _ => [.v (.int .u8 y)]) 1 v2 f2).rep w d2) :
    Calls Try.prog 15 (denL [.ag (msgC kd fr to id (.slice (some ⟨b1, o1, none⟩) n c1) (.slice (some ⟨d1, 0, none⟩) 1 1)), .ag (msgC kd fr to id (.slice (some ⟨b2, o2, none⟩) n c2) (.slice (some ⟨d2, 0, none⟩) 1 1))]).toArray w (TruePost w) := by
  have hE : HpAll (frame0 w) w [(d1, false, .arr 0 1 (fun _ => [.v (.int .u8 y)]) 1 v1 f1), (d2, false, .arr 0 1 (fun _ => [.v (.int .u8 y)]) 1 v2 f2)] := ⟨⟨q1, by simp, by simpa using hdd⟩, ⟨q2, by simp, by simp⟩, trivial⟩
  refine enter (F := frame0 w) Try.func15 rfl [.ag [.v (.int .i64 kd), .v (.int .i64 fr), .v (.int .i64 to), .v (.int .i64 id), .v (.slice (some ⟨b1, o1, none⟩) n c1), .sl 0 d1 0 0 1 1 1], .ag [.v (.int .i64 kd), .v (.int .i64 fr), .v (.int .i64 to), .v (.int .i64 id), .v (.slice (some ⟨b2, o2, none⟩) n c2), .sl 1 d2 0 0 1 1 1]] _ (by simp [Try.f15]) hE (keeps0 w) fun a hr => ?_
  refine seg cfg15_ok mixed PanicFree.body 5 [] [] hr (by first | trivial | exact HpRep.nil | assumption) (by kernel_rfl) fun s_ hs_ => ?_
  simp (maxSteps := 10000000) [SX.vc, SX.stop, SX.contS, SX.contB, SX.contW, SX.contR, SX.contD, SX.sxStep, SX.stepPure, SX.stepNew, SX.stepStore, SX.stepKeep, SX.guardIx, SX.evOp, SX.opd, SX.opds, SX.optOpd, SX.look, SX.putS, SX.gobs, SX.AllP, SX.leave, SX.lookC, SX.lookB, SX.lookT, SX.lookN, SX.findK, SX.evBuiltin, SX.ints, SX.foldI, SX.evBin, SX.evInt, SX.evStr, SX.evEq, SX.arith, SX.evLoad, SX.shapeUp, SX.evFieldAddr, SX.evField, SX.evIndexAddr, SX.evIndex, SX.evFill, SX.evBuild, SX.szs, SX.cellsV, SX.evNew, SX.evStore, SX.spliceL, SX.SV.cells, SX.evConv, SX.evSlice, SX.bnd, SX.evNil, SX.evUn, SX.evPick, SX.pickOpd, SX.popTo, SX.cnd, SX.env0, SX.TD.isAgg, SX.TD.isIface, SX.tails, SX.NotAgg, SX.evLookup, SX.evConvH, SX.evPtrEq, SX.isCells, SX.thaw, SX.frz, SX.fixB, SX.rootIx, SX.Froz, SX.frzStep, SX.fork, Go.Value.cells, Go.undef, cfg15, Try.f15]
  refine ⟨by (unfold SX.Ob; first | trivial | omega | ((try simp only [SX.inK]); (try simp [SX.den, SX.IsU8, *]); (try omega))), ?_⟩
  intro a1 w1 hr1 _
  refine seg cfg15_ok mixed PanicFree.body 16 [] [(10, true), (17, true), (24, true), (31, true), (38, true)] hr1 (by first | trivial | exact HpRep.nil | assumption) (by kernel_rfl) fun s_ hs_ => ?_
  simp (maxSteps := 10000000) [SX.vc, SX.stop, SX.contS, SX.contB, SX.contW, SX.contR, SX.contD, SX.sxStep, SX.stepPure, SX.stepNew, SX.stepStore, SX.stepKeep, SX.guardIx, SX.evOp, SX.opd, SX.opds, SX.optOpd, SX.look, SX.putS, SX.gobs, SX.AllP, SX.leave, SX.lookC, SX.lookB, SX.lookT, SX.lookN, SX.findK, SX.evBuiltin, SX.ints, SX.foldI, SX.evBin, SX.evInt, SX.evStr, SX.evEq, SX.arith, SX.evLoad, SX.shapeUp, SX.evFieldAddr, SX.evField, SX.evIndexAddr, SX.evIndex, SX.evFill, SX.evBuild, SX.szs, SX.cellsV, SX.evNew, SX.evStore, SX.spliceL, SX.SV.cells, SX.evConv, SX.evSlice, SX.bnd, SX.evNil, SX.evUn, SX.evPick, SX.pickOpd, SX.popTo, SX.cnd, SX.env0, SX.TD.isAgg, SX.TD.isIface, SX.tails, SX.NotAgg, SX.evLookup, SX.evConvH, SX.evPtrEq, SX.isCells, SX.thaw, SX.frz, SX.fixB, SX.rootIx, SX.Froz, SX.frzStep, SX.fork, Go.Value.cells, Go.undef, cfg15]
  refine ⟨by (unfold SX.Ob; first | trivial | omega | ((try simp only [SX.inK]); (try simp [SX.den, SX.IsU8, *]); (try omega))), ?_⟩
  intro a2 w2 hr2 _
  refine seg cfg15_ok mixed PanicFree.body 1000 [] [(10, true), (17, true), (24, true), (31, true), (38, true)] hr2 (by first | trivial | exact HpRep.nil | assumption) (by kernel_rfl) fun s_ hs_ => ?_
  simp (maxSteps := 10000000) [SX.vc, SX.stop, SX.contS, SX.contB, SX.contW, SX.contR, SX.contD, SX.sxStep, SX.stepPure, SX.stepNew, SX.stepStore, SX.stepKeep, SX.guardIx, SX.evOp, SX.opd, SX.opds, SX.optOpd, SX.look, SX.putS, SX.gobs, SX.AllP, SX.leave, SX.lookC, SX.lookB, SX.lookT, SX.lookN, SX.findK, SX.evBuiltin, SX.ints, SX.foldI, SX.evBin, SX.evInt, SX.evStr, SX.evEq, SX.arith, SX.evLoad, SX.shapeUp, SX.evFieldAddr, SX.evField, SX.evIndexAddr, SX.evIndex, SX.evFill, SX.evBuild, SX.szs, SX.cellsV, SX.evNew, SX.evStore, SX.spliceL, SX.SV.cells, SX.evConv, SX.evSlice, SX.bnd, SX.evNil, SX.evUn, SX.evPick, SX.pickOpd, SX.popTo, SX.cnd, SX.env0, SX.TD.isAgg, SX.TD.isIface, SX.tails, SX.NotAgg, SX.evLookup, SX.evConvH, SX.evPtrEq, SX.isCells, SX.thaw, SX.frz, SX.fixB, SX.rootIx, SX.Froz, SX.frzStep, SX.fork, Go.Value.cells, Go.undef, cfg15]
  refine ⟨by (unfold SX.Ob; first | trivial | omega | ((try simp only [SX.inK]); (try simp [SX.den, SX.IsU8, *]); (try omega))), ?_⟩
  intro a3 w3 hr3 _
  have r1' := SO.rep_same r1 (hr3.keeps.block _ (SO.rep_lt r1) (by simp [frame0]))
  have r2' := SO.rep_same r2 (hr3.keeps.block _ (SO.rep_lt r2) (by simp [frame0]))
  refine post_call 18 [.v (.slice (some ⟨b1, o1, none⟩) n c1), .v (.slice (some ⟨b2, o2, none⟩) n c2)] hr3 (wanted_zero (hr3.env.same rfl rfl rfl rfl) rfl (by simp)) rfl (callable 18 Try.func18) (same_some w3 n b1 o1 N1 c1 b2 o2 N2 c2 u1 u2 z1 z2 g h hne hn1 hn2 hn r1' r2') ?_
  rintro e w4 ⟨t, rfl, ht, hb4⟩
  have ht' : t = true := ht.2 ⟨rfl, hs⟩
  subst ht'
  refine ⟨_, rfl, ?_⟩
  have h4 := hr3.ret hb4 36 (.v (.bool true)) rfl _ (hr3.all.below hb4) (by simp) rfl
  refine seg cfg15_ok mixed PanicFree.body 1000 [] [(31, true), (38, true)] h4 (by first | trivial | exact HpRep.nil | assumption) (by kernel_rfl) fun s_ hs_ => ?_
  simp (maxSteps := 10000000) [SX.vc, SX.stop, SX.contS, SX.contB, SX.contW, SX.contR, SX.contD, SX.sxStep, SX.stepPure, SX.stepNew, SX.stepStore, SX.stepKeep, SX.guardIx, SX.evOp, SX.opd, SX.opds, SX.optOpd, SX.look, SX.putS, SX.gobs, SX.AllP, SX.leave, SX.lookC, SX.lookB, SX.lookT, SX.lookN, SX.findK, SX.evBuiltin, SX.ints, SX.foldI, SX.evBin, SX.evInt, SX.evStr, SX.evEq, SX.arith, SX.evLoad, SX.shapeUp, SX.evFieldAddr, SX.evField, SX.evIndexAddr, SX.evIndex, SX.evFill, SX.evBuild, SX.szs, SX.cellsV, SX.evNew, SX.evStore, SX.spliceL, SX.SV.cells, SX.evConv, SX.evSlice, SX.bnd, SX.evNil, SX.evUn, SX.evPick, SX.pickOpd, SX.popTo, SX.cnd, SX.env0, SX.TD.isAgg, SX.TD.isIface, SX.tails, SX.NotAgg, SX.evLookup, SX.evConvH, SX.evPtrEq, SX.isCells, SX.thaw, SX.frz, SX.fixB, SX.rootIx, SX.Froz, SX.frzStep, SX.fork, Go.Value.cells, Go.undef, cfg15]
  refine ⟨by (unfold SX.Ob; first | trivial | omega | ((try simp only [SX.inK]); (try simp [SX.den, SX.IsU8, *]); (try omega))), ?_⟩
  intro a5 w5 hr5 _
  exact post_retn (end1 hr5 rfl rfl ⟨rfl, hr5.keeps.toBelow⟩).1
end Go.Proofs
