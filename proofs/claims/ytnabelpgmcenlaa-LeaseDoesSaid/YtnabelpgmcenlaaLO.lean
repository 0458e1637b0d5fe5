/- Leases: few; LeaseBack walked. -/
import Derived.Test.YtnabelpgmcenlaaLM
namespace Go.Proofs
set_option linter.unusedVariables false
set_option linter.unusedSimpArgs false
open Go Go.SX Go.RowKit

def NearT (t : Tab) : Prop := t.last < 1152921504606846976 ∧ t.now < 1152921504606846976
instance (t : Tab) : Decidable (NearT t) := by unfold NearT; infer_instance
set_option maxRecDepth 100000 in
set_option maxHeartbeats 8000000 in
/-- Near. -/
theorem near_ok (w : World) (ad : Option Addr) (n cp : Nat) (t : Tab) : Calls Try.prog 29 (denL [.ag (tabC t (.slice ad n cp))]).toArray w (Ret w (.v (.bool (decide (NearT t))))) := by
  refine enter (F := frame0 w) Try.func29 rfl [.ag (tabC t (.slice ad n cp))] [] (by simp [Try.f29]) trivial (keeps0 w) fun a hr => ?_
  by_cases h1 : t.last < 1152921504606846976
  · refine seg cfg29_ok mixed PanicFree.body 1000 [] [(6, true)] hr (by first | trivial | exact HpRep.nil | assumption) (by kernel_rfl) fun s_ hs_ => ?_
    simp (maxSteps := 10000000) [SX.vc, SX.stop, SX.contS, SX.contB, SX.contW, SX.contR, SX.contD, SX.sxStep, SX.stepPure, SX.stepNew, SX.stepStore, SX.stepKeep, SX.guardIx, SX.evOp, SX.opd, SX.opds, SX.optOpd, SX.look, SX.putS, SX.gobs, SX.AllP, SX.leave, SX.lookC, SX.lookB, SX.lookT, SX.lookN, SX.findK, SX.evBuiltin, SX.ints, SX.foldI, SX.evBin, SX.evInt, SX.evStr, SX.evEq, SX.arith, SX.evLoad, SX.shapeUp, SX.evFieldAddr, SX.evField, SX.evIndexAddr, SX.evIndex, SX.evFill, SX.evBuild, SX.szs, SX.cellsV, SX.evNew, SX.evStore, SX.spliceL, SX.SV.cells, SX.evConv, SX.evSlice, SX.bnd, SX.evNil, SX.evUn, SX.evPick, SX.pickOpd, SX.popTo, SX.cnd, SX.env0, SX.TD.isAgg, SX.TD.isIface, SX.tails, SX.NotAgg, SX.evLookup, SX.evConvH, SX.evPtrEq, SX.isCells, SX.thaw, SX.frz, SX.fixB, SX.rootIx, SX.Froz, SX.frzStep, SX.fork, Go.Value.cells, Go.undef, cfg29, Try.f29, tabC, h1]
    refine ⟨by (unfold SX.Ob; first | trivial | omega | ((try simp only [SX.inK]); (try simp [SX.den, SX.IsU8, SX.AllP, *]); (try omega))), ?_⟩
    intro a1 w1 hr1 _
    exact post_retn (end1 hr1 rfl rfl ⟨ret_dec (by simp [NearT, h1]), hr1.keeps.toBelow⟩).1
  · refine seg cfg29_ok mixed PanicFree.body 1000 [] [(6, false)] hr (by first | trivial | exact HpRep.nil | assumption) (by kernel_rfl) fun s_ hs_ => ?_
    simp (maxSteps := 10000000) [SX.vc, SX.stop, SX.contS, SX.contB, SX.contW, SX.contR, SX.contD, SX.sxStep, SX.stepPure, SX.stepNew, SX.stepStore, SX.stepKeep, SX.guardIx, SX.evOp, SX.opd, SX.opds, SX.optOpd, SX.look, SX.putS, SX.gobs, SX.AllP, SX.leave, SX.lookC, SX.lookB, SX.lookT, SX.lookN, SX.findK, SX.evBuiltin, SX.ints, SX.foldI, SX.evBin, SX.evInt, SX.evStr, SX.evEq, SX.arith, SX.evLoad, SX.shapeUp, SX.evFieldAddr, SX.evField, SX.evIndexAddr, SX.evIndex, SX.evFill, SX.evBuild, SX.szs, SX.cellsV, SX.evNew, SX.evStore, SX.spliceL, SX.SV.cells, SX.evConv, SX.evSlice, SX.bnd, SX.evNil, SX.evUn, SX.evPick, SX.pickOpd, SX.popTo, SX.cnd, SX.env0, SX.TD.isAgg, SX.TD.isIface, SX.tails, SX.NotAgg, SX.evLookup, SX.evConvH, SX.evPtrEq, SX.isCells, SX.thaw, SX.frz, SX.fixB, SX.rootIx, SX.Froz, SX.frzStep, SX.fork, Go.Value.cells, Go.undef, cfg29, Try.f29, tabC, h1]
    refine ⟨by (unfold SX.Ob; first | trivial | omega | ((try simp only [SX.inK]); (try simp [SX.den, SX.IsU8, SX.AllP, *]); (try omega))), ?_⟩
    intro a1 w1 hr1 _
    exact post_retn (end1 hr1 rfl rfl ⟨ret_dec (by simp [NearT, h1]), hr1.keeps.toBelow⟩).1

/-- Small enough. -/
def FewP (t : Tab) (n : Nat) : Prop := t.L.length ≤ 100 ∧ n ≤ 100 ∧ NearT t
instance (t : Tab) (n : Nat) : Decidable (FewP t n) := by unfold FewP; infer_instance
set_option maxRecDepth 100000 in
set_option maxHeartbeats 8000000 in
/-- few. -/
theorem few_ok {P : Nat → Prop} (w : World) (v : Value) (t : Tab) (ad : Option Addr) (n cp : Nat) (hL : RdL P w v t.L) : Calls Try.prog 10 (denL [.ag (tabC t v), .v (.slice ad n cp)]).toArray w (Ret w (.v (.bool (decide (FewP t n))))) := by
  obtain ⟨ad', cp', rfl⟩ := hL.slice
  refine enter (F := frame0 w) Try.func10 rfl [.ag (tabC t (.slice ad' t.L.length cp')), .v (.slice ad n cp)] [] (by simp [Try.f10]) trivial (keeps0 w) fun a hr => ?_
  by_cases h1 : t.L.length ≤ 100
  rotate_left
  · have h1' : ¬ (t.L.length : Int) ≤ 100 := by omega
    refine seg cfg10_ok mixed PanicFree.body 1000 [] [(9, false), (14, false)] hr (by first | trivial | exact HpRep.nil | assumption) (by kernel_rfl) fun s_ hs_ => ?_
    simp (maxSteps := 10000000) [SX.vc, SX.stop, SX.contS, SX.contB, SX.contW, SX.contR, SX.contD, SX.sxStep, SX.stepPure, SX.stepNew, SX.stepStore, SX.stepKeep, SX.guardIx, SX.evOp, SX.opd, SX.opds, SX.optOpd, SX.look, SX.putS, SX.gobs, SX.AllP, SX.leave, SX.lookC, SX.lookB, SX.lookT, SX.lookN, SX.findK, SX.evBuiltin, SX.ints, SX.foldI, SX.evBin, SX.evInt, SX.evStr, SX.evEq, SX.arith, SX.evLoad, SX.shapeUp, SX.evFieldAddr, SX.evField, SX.evIndexAddr, SX.evIndex, SX.evFill, SX.evBuild, SX.szs, SX.cellsV, SX.evNew, SX.evStore, SX.spliceL, SX.SV.cells, SX.evConv, SX.evSlice, SX.bnd, SX.evNil, SX.evUn, SX.evPick, SX.pickOpd, SX.popTo, SX.cnd, SX.env0, SX.TD.isAgg, SX.TD.isIface, SX.tails, SX.NotAgg, SX.evLookup, SX.evConvH, SX.evPtrEq, SX.isCells, SX.thaw, SX.frz, SX.fixB, SX.rootIx, SX.Froz, SX.frzStep, SX.fork, Go.Value.cells, Go.undef, cfg10, Try.f10, tabC, h1']
    refine ⟨by (unfold SX.Ob; first | trivial | omega | ((try simp only [SX.inK]); (try simp [SX.den, SX.IsU8, SX.AllP, *]); (try omega))), ?_⟩
    intro a1 w1 hr1 _
    exact post_retn (end1 hr1 rfl rfl ⟨ret_dec (by simp [FewP]; omega), hr1.keeps.toBelow⟩).1
  have h1' : (t.L.length : Int) ≤ 100 := by omega
  by_cases h2 : n ≤ 100
  rotate_left
  · have h2' : ¬ (n : Int) ≤ 100 := by omega
    refine seg cfg10_ok mixed PanicFree.body 1000 [] [(9, true), (14, false)] hr (by first | trivial | exact HpRep.nil | assumption) (by kernel_rfl) fun s_ hs_ => ?_
    simp (maxSteps := 10000000) [SX.vc, SX.stop, SX.contS, SX.contB, SX.contW, SX.contR, SX.contD, SX.sxStep, SX.stepPure, SX.stepNew, SX.stepStore, SX.stepKeep, SX.guardIx, SX.evOp, SX.opd, SX.opds, SX.optOpd, SX.look, SX.putS, SX.gobs, SX.AllP, SX.leave, SX.lookC, SX.lookB, SX.lookT, SX.lookN, SX.findK, SX.evBuiltin, SX.ints, SX.foldI, SX.evBin, SX.evInt, SX.evStr, SX.evEq, SX.arith, SX.evLoad, SX.shapeUp, SX.evFieldAddr, SX.evField, SX.evIndexAddr, SX.evIndex, SX.evFill, SX.evBuild, SX.szs, SX.cellsV, SX.evNew, SX.evStore, SX.spliceL, SX.SV.cells, SX.evConv, SX.evSlice, SX.bnd, SX.evNil, SX.evUn, SX.evPick, SX.pickOpd, SX.popTo, SX.cnd, SX.env0, SX.TD.isAgg, SX.TD.isIface, SX.tails, SX.NotAgg, SX.evLookup, SX.evConvH, SX.evPtrEq, SX.isCells, SX.thaw, SX.frz, SX.fixB, SX.rootIx, SX.Froz, SX.frzStep, SX.fork, Go.Value.cells, Go.undef, cfg10, Try.f10, tabC, h1', h2']
    refine ⟨by (unfold SX.Ob; first | trivial | omega | ((try simp only [SX.inK]); (try simp [SX.den, SX.IsU8, SX.AllP, *]); (try omega))), ?_⟩
    intro a1 w1 hr1 _
    exact post_retn (end1 hr1 rfl rfl ⟨ret_dec (by simp [FewP]; omega), hr1.keeps.toBelow⟩).1
  have h2' : (n : Int) ≤ 100 := by omega
  refine seg cfg10_ok mixed PanicFree.body 1000 [] [(9, true), (14, true)] hr (by first | trivial | exact HpRep.nil | assumption) (by kernel_rfl) fun s_ hs_ => ?_
  simp (maxSteps := 10000000) [SX.vc, SX.stop, SX.contS, SX.contB, SX.contW, SX.contR, SX.contD, SX.sxStep, SX.stepPure, SX.stepNew, SX.stepStore, SX.stepKeep, SX.guardIx, SX.evOp, SX.opd, SX.opds, SX.optOpd, SX.look, SX.putS, SX.gobs, SX.AllP, SX.leave, SX.lookC, SX.lookB, SX.lookT, SX.lookN, SX.findK, SX.evBuiltin, SX.ints, SX.foldI, SX.evBin, SX.evInt, SX.evStr, SX.evEq, SX.arith, SX.evLoad, SX.shapeUp, SX.evFieldAddr, SX.evField, SX.evIndexAddr, SX.evIndex, SX.evFill, SX.evBuild, SX.szs, SX.cellsV, SX.evNew, SX.evStore, SX.spliceL, SX.SV.cells, SX.evConv, SX.evSlice, SX.bnd, SX.evNil, SX.evUn, SX.evPick, SX.pickOpd, SX.popTo, SX.cnd, SX.env0, SX.TD.isAgg, SX.TD.isIface, SX.tails, SX.NotAgg, SX.evLookup, SX.evConvH, SX.evPtrEq, SX.isCells, SX.thaw, SX.frz, SX.fixB, SX.rootIx, SX.Froz, SX.frzStep, SX.fork, Go.Value.cells, Go.undef, cfg10, Try.f10, tabC, h1', h2']
  refine ⟨by (unfold SX.Ob; first | trivial | omega | ((try simp only [SX.inK]); (try simp [SX.den, SX.IsU8, SX.AllP, *]); (try omega))), ?_⟩
  intro a1 w1 hr1 _
  refine post_call 29 [.ag [.v (.int .i64 t.last), .v (.int .i64 t.now), .v (.slice ad' t.L.length cp')]] hr1 (by first | exact wanted_none rfl | exact wanted_zero (hr1.env.same rfl rfl rfl rfl) rfl (by simp) | exact wanted_zero (hr1.env.same rfl rfl rfl rfl) rfl (by simp [*])) rfl (callable 29 Try.func29) (near_ok w1 ad' t.L.length cp' t) ?_
  rintro e2 w2 ⟨rfl, hb2⟩
  refine ⟨_, rfl, ?_⟩
  have h2'' := hr1.ret hb2 16 (.v (.bool (decide (NearT t)))) rfl _ (hr1.all.below hb2) (by simp) rfl
  by_cases h3 : NearT t
  · refine seg cfg10_ok mixed PanicFree.body 1000 [] [(9, true), (14, true)] h2'' (by first | trivial | exact HpRep.nil | assumption) (by kernel_rfl) fun s_ hs_ => ?_
    simp (maxSteps := 10000000) [SX.vc, SX.stop, SX.contS, SX.contB, SX.contW, SX.contR, SX.contD, SX.sxStep, SX.stepPure, SX.stepNew, SX.stepStore, SX.stepKeep, SX.guardIx, SX.evOp, SX.opd, SX.opds, SX.optOpd, SX.look, SX.putS, SX.gobs, SX.AllP, SX.leave, SX.lookC, SX.lookB, SX.lookT, SX.lookN, SX.findK, SX.evBuiltin, SX.ints, SX.foldI, SX.evBin, SX.evInt, SX.evStr, SX.evEq, SX.arith, SX.evLoad, SX.shapeUp, SX.evFieldAddr, SX.evField, SX.evIndexAddr, SX.evIndex, SX.evFill, SX.evBuild, SX.szs, SX.cellsV, SX.evNew, SX.evStore, SX.spliceL, SX.SV.cells, SX.evConv, SX.evSlice, SX.bnd, SX.evNil, SX.evUn, SX.evPick, SX.pickOpd, SX.popTo, SX.cnd, SX.env0, SX.TD.isAgg, SX.TD.isIface, SX.tails, SX.NotAgg, SX.evLookup, SX.evConvH, SX.evPtrEq, SX.isCells, SX.thaw, SX.frz, SX.fixB, SX.rootIx, SX.Froz, SX.frzStep, SX.fork, Go.Value.cells, Go.undef, cfg10, h3]
    refine ⟨by (unfold SX.Ob; first | trivial | omega | ((try simp only [SX.inK]); (try simp [SX.den, SX.IsU8, SX.AllP, *]); (try omega))), ?_⟩
    intro a3 w3 hr3 _
    exact post_retn (end1 hr3 rfl rfl ⟨ret_dec (by simp [FewP, h1, h2, h3]), hr3.keeps.toBelow⟩).1
  · refine seg cfg10_ok mixed PanicFree.body 1000 [] [(9, true), (14, true)] h2'' (by first | trivial | exact HpRep.nil | assumption) (by kernel_rfl) fun s_ hs_ => ?_
    simp (maxSteps := 10000000) [SX.vc, SX.stop, SX.contS, SX.contB, SX.contW, SX.contR, SX.contD, SX.sxStep, SX.stepPure, SX.stepNew, SX.stepStore, SX.stepKeep, SX.guardIx, SX.evOp, SX.opd, SX.opds, SX.optOpd, SX.look, SX.putS, SX.gobs, SX.AllP, SX.leave, SX.lookC, SX.lookB, SX.lookT, SX.lookN, SX.findK, SX.evBuiltin, SX.ints, SX.foldI, SX.evBin, SX.evInt, SX.evStr, SX.evEq, SX.arith, SX.evLoad, SX.shapeUp, SX.evFieldAddr, SX.evField, SX.evIndexAddr, SX.evIndex, SX.evFill, SX.evBuild, SX.szs, SX.cellsV, SX.evNew, SX.evStore, SX.spliceL, SX.SV.cells, SX.evConv, SX.evSlice, SX.bnd, SX.evNil, SX.evUn, SX.evPick, SX.pickOpd, SX.popTo, SX.cnd, SX.env0, SX.TD.isAgg, SX.TD.isIface, SX.tails, SX.NotAgg, SX.evLookup, SX.evConvH, SX.evPtrEq, SX.isCells, SX.thaw, SX.frz, SX.fixB, SX.rootIx, SX.Froz, SX.frzStep, SX.fork, Go.Value.cells, Go.undef, cfg10, h3]
    refine ⟨by (unfold SX.Ob; first | trivial | omega | ((try simp only [SX.inK]); (try simp [SX.den, SX.IsU8, SX.AllP, *]); (try omega))), ?_⟩
    intro a3 w3 hr3 _
    exact post_retn (end1 hr3 rfl rfl ⟨ret_dec (by simp [FewP, h3]), hr3.keeps.toBelow⟩).1

theorem HpAll.imm {F : Fr} {w : World} : ∀ {H : Hp}, HpAll F w H → HpAll F w (H.map fun e => (e.1, false, e.2.2))
  | [], _ => trivial
  | (b, m, o) :: H, h => ⟨⟨h.1.1, by simp, fun e he => by
    obtain ⟨e', he', rfl⟩ := List.mem_map.1 he
    exact h.1.2.2 e' he'⟩, HpAll.imm h.2⟩

set_option maxRecDepth 100000 in
set_option maxHeartbeats 32000000 in
/-- LeaseBack. -/
theorem back_ok (w : World) (v : Value) (t : Tab) (key host ttl : Int) (hL : RdL (fun x => x < w.heap.size) w v t.L) (hn : t.L.length ≤ 1000000000000000) : Calls Try.prog 4 #[den (.ag (tabC t v)), .int .i64 key, .int .i64 host, .int .i64 ttl] w (fun ev w' => ev = .returned (.bool true) ∧ Below w.heap.size w w') := by
  obtain ⟨ad, cp, rfl⟩ := hL.slice
  refine enter (F := frame0 w) Try.func4 rfl [.ag (tabC t (.slice ad t.L.length cp)), .v (.int .i64 key), .v (.int .i64 host), .v (.int .i64 ttl)] [] (by simp [Try.f4, denL, den]) trivial (keeps0 w) fun a hr => ?_
  refine seg cfg4_ok mixed PanicFree.body 1000 [] [] hr (by first | trivial | exact HpRep.nil | assumption) (by kernel_rfl) fun s_ hs_ => ?_
  simp (maxSteps := 10000000) [SX.vc, SX.stop, SX.contS, SX.contB, SX.contW, SX.contR, SX.contD, SX.sxStep, SX.stepPure, SX.stepNew, SX.stepStore, SX.stepKeep, SX.guardIx, SX.evOp, SX.opd, SX.opds, SX.optOpd, SX.look, SX.putS, SX.gobs, SX.AllP, SX.leave, SX.lookC, SX.lookB, SX.lookT, SX.lookN, SX.findK, SX.evBuiltin, SX.ints, SX.foldI, SX.evBin, SX.evInt, SX.evStr, SX.evEq, SX.arith, SX.evLoad, SX.shapeUp, SX.evFieldAddr, SX.evField, SX.evIndexAddr, SX.evIndex, SX.evFill, SX.evBuild, SX.szs, SX.cellsV, SX.evNew, SX.evStore, SX.spliceL, SX.SV.cells, SX.evConv, SX.evSlice, SX.bnd, SX.evNil, SX.evUn, SX.evPick, SX.pickOpd, SX.popTo, SX.cnd, SX.env0, SX.TD.isAgg, SX.TD.isIface, SX.tails, SX.NotAgg, SX.evLookup, SX.evConvH, SX.evPtrEq, SX.isCells, SX.thaw, SX.frz, SX.fixB, SX.rootIx, SX.Froz, SX.frzStep, SX.fork, Go.Value.cells, Go.undef, cfg4, Try.f4, tabC]
  refine ⟨by (unfold SX.Ob; first | trivial | omega | ((try simp only [SX.inK]); (try simp [SX.den, SX.IsU8, SX.AllP, *]); (try omega))), ?_⟩
  intro a1 w1 hr1 _
  refine post_call 9 [] hr1 (by first | exact wanted_none rfl | exact wanted_zero (hr1.env.same rfl rfl rfl rfl) rfl (by simp) | exact wanted_zero (hr1.env.same rfl rfl rfl rfl) rfl (by simp [*])) rfl (callable 9 Try.func9) (live_ok w1) ?_
  rintro e2' w2 ⟨rfl, hb2⟩
  refine ⟨_, rfl, ?_⟩
  have h2 := hr1.ret hb2 22 (.v (.bool true)) rfl _ (hr1.all.below hb2) (by simp) rfl
  refine seg cfg4_ok mixed PanicFree.body 1000 [] [] h2 (by first | trivial | exact HpRep.nil | assumption) (by kernel_rfl) fun s_ hs_ => ?_
  simp (maxSteps := 10000000) [SX.vc, SX.stop, SX.contS, SX.contB, SX.contW, SX.contR, SX.contD, SX.sxStep, SX.stepPure, SX.stepNew, SX.stepStore, SX.stepKeep, SX.guardIx, SX.evOp, SX.opd, SX.opds, SX.optOpd, SX.look, SX.putS, SX.gobs, SX.AllP, SX.leave, SX.lookC, SX.lookB, SX.lookT, SX.lookN, SX.findK, SX.evBuiltin, SX.ints, SX.foldI, SX.evBin, SX.evInt, SX.evStr, SX.evEq, SX.arith, SX.evLoad, SX.shapeUp, SX.evFieldAddr, SX.evField, SX.evIndexAddr, SX.evIndex, SX.evFill, SX.evBuild, SX.szs, SX.cellsV, SX.evNew, SX.evStore, SX.spliceL, SX.SV.cells, SX.evConv, SX.evSlice, SX.bnd, SX.evNil, SX.evUn, SX.evPick, SX.pickOpd, SX.popTo, SX.cnd, SX.env0, SX.TD.isAgg, SX.TD.isIface, SX.tails, SX.NotAgg, SX.evLookup, SX.evConvH, SX.evPtrEq, SX.isCells, SX.thaw, SX.frz, SX.fixB, SX.rootIx, SX.Froz, SX.frzStep, SX.fork, Go.Value.cells, Go.undef, cfg4]
  refine ⟨by (unfold SX.Ob; first | trivial | omega | ((try simp only [SX.inK]); (try simp [SX.den, SX.IsU8, SX.AllP, *]); (try omega))), ?_⟩
  intro a3 w3 hr3 _
  refine post_call 10 [.ag [.v (.int .i64 t.last), .v (.int .i64 t.now), .v (.slice ad t.L.length cp)], .v (.slice none 0 0)] hr3 (by first | exact wanted_none rfl | exact wanted_zero (hr3.env.same rfl rfl rfl rfl) rfl (by simp) | exact wanted_zero (hr3.env.same rfl rfl rfl rfl) rfl (by simp [*])) rfl (callable 10 Try.func10) (few_ok w3 _ t none 0 0 (hL.below hr3.keeps.toBelow)) ?_
  rintro e4 w4 ⟨rfl, hb4⟩
  refine ⟨_, rfl, ?_⟩
  have h4 := hr3.ret hb4 24 (.v (.bool (decide (FewP t 0)))) rfl _ (hr3.all.below hb4) (by simp) rfl
  by_cases hF : FewP t 0
  rotate_left
  · refine seg cfg4_ok mixed PanicFree.body 1000 [true] [(26, true)] h4 (by first | trivial | exact HpRep.nil | assumption) (by kernel_rfl) fun s_ hs_ => ?_
    simp (maxSteps := 10000000) [SX.vc, SX.stop, SX.contS, SX.contB, SX.contW, SX.contR, SX.contD, SX.sxStep, SX.stepPure, SX.stepNew, SX.stepStore, SX.stepKeep, SX.guardIx, SX.evOp, SX.opd, SX.opds, SX.optOpd, SX.look, SX.putS, SX.gobs, SX.AllP, SX.leave, SX.lookC, SX.lookB, SX.lookT, SX.lookN, SX.findK, SX.evBuiltin, SX.ints, SX.foldI, SX.evBin, SX.evInt, SX.evStr, SX.evEq, SX.arith, SX.evLoad, SX.shapeUp, SX.evFieldAddr, SX.evField, SX.evIndexAddr, SX.evIndex, SX.evFill, SX.evBuild, SX.szs, SX.cellsV, SX.evNew, SX.evStore, SX.spliceL, SX.SV.cells, SX.evConv, SX.evSlice, SX.bnd, SX.evNil, SX.evUn, SX.evPick, SX.pickOpd, SX.popTo, SX.cnd, SX.env0, SX.TD.isAgg, SX.TD.isIface, SX.tails, SX.NotAgg, SX.evLookup, SX.evConvH, SX.evPtrEq, SX.isCells, SX.thaw, SX.frz, SX.fixB, SX.rootIx, SX.Froz, SX.frzStep, SX.fork, Go.Value.cells, Go.undef, cfg4, hF]
    refine ⟨by (unfold SX.Ob; first | trivial | omega | ((try simp only [SX.inK]); (try simp [SX.den, SX.IsU8, SX.AllP, *]); (try omega))), ?_⟩
    intro a5 w5 hr5 _
    exact post_retn (end1 hr5 rfl rfl ⟨rfl, hr5.keeps.toBelow⟩).1
  refine seg cfg4_ok mixed PanicFree.body 1000 [] [(26, false)] h4 (by first | trivial | exact HpRep.nil | assumption) (by kernel_rfl) fun s_ hs_ => ?_
  simp (maxSteps := 10000000) [SX.vc, SX.stop, SX.contS, SX.contB, SX.contW, SX.contR, SX.contD, SX.sxStep, SX.stepPure, SX.stepNew, SX.stepStore, SX.stepKeep, SX.guardIx, SX.evOp, SX.opd, SX.opds, SX.optOpd, SX.look, SX.putS, SX.gobs, SX.AllP, SX.leave, SX.lookC, SX.lookB, SX.lookT, SX.lookN, SX.findK, SX.evBuiltin, SX.ints, SX.foldI, SX.evBin, SX.evInt, SX.evStr, SX.evEq, SX.arith, SX.evLoad, SX.shapeUp, SX.evFieldAddr, SX.evField, SX.evIndexAddr, SX.evIndex, SX.evFill, SX.evBuild, SX.szs, SX.cellsV, SX.evNew, SX.evStore, SX.spliceL, SX.SV.cells, SX.evConv, SX.evSlice, SX.bnd, SX.evNil, SX.evUn, SX.evPick, SX.pickOpd, SX.popTo, SX.cnd, SX.env0, SX.TD.isAgg, SX.TD.isIface, SX.tails, SX.NotAgg, SX.evLookup, SX.evConvH, SX.evPtrEq, SX.isCells, SX.thaw, SX.frz, SX.fixB, SX.rootIx, SX.Froz, SX.frzStep, SX.fork, Go.Value.cells, Go.undef, cfg4, hF, tabC]
  refine ⟨by (unfold SX.Ob; first | trivial | omega | ((try simp only [SX.inK]); (try simp [SX.den, SX.IsU8, SX.AllP, *]); (try omega))), ?_⟩
  intro a5 w5 hr5 _
  refine post_call 11 [.ag [.v (.int .i64 t.last), .v (.int .i64 t.now), .v (.slice ad t.L.length cp)]] hr5 (by first | exact wanted_none rfl | exact wanted_zero (hr5.env.same rfl rfl rfl rfl) rfl (by simp) | exact wanted_zero (hr5.env.same rfl rfl rfl rfl) rfl (by simp [*])) rfl (callable 11 Try.func11) (rcheck_ok w5 _ t (hL.below hr5.keeps.toBelow) hn) ?_
  rintro e6 w6 ⟨rfl, hb6⟩
  refine ⟨_, rfl, ?_⟩
  have h6 := hr5.ret hb6 28 (.v (.int .i64 (chkT t))) rfl _ (hr5.all.below hb6) (by simp) rfl
  by_cases hC : ChkT t
  rotate_left
  · have hc : chkT t = 1 := if_neg hC
    refine seg cfg4_ok mixed PanicFree.body 1000 [true] [(26, false)] h6 (by first | trivial | exact HpRep.nil | assumption) (by kernel_rfl) fun s_ hs_ => ?_
    simp (maxSteps := 10000000) [SX.vc, SX.stop, SX.contS, SX.contB, SX.contW, SX.contR, SX.contD, SX.sxStep, SX.stepPure, SX.stepNew, SX.stepStore, SX.stepKeep, SX.guardIx, SX.evOp, SX.opd, SX.opds, SX.optOpd, SX.look, SX.putS, SX.gobs, SX.AllP, SX.leave, SX.lookC, SX.lookB, SX.lookT, SX.lookN, SX.findK, SX.evBuiltin, SX.ints, SX.foldI, SX.evBin, SX.evInt, SX.evStr, SX.evEq, SX.arith, SX.evLoad, SX.shapeUp, SX.evFieldAddr, SX.evField, SX.evIndexAddr, SX.evIndex, SX.evFill, SX.evBuild, SX.szs, SX.cellsV, SX.evNew, SX.evStore, SX.spliceL, SX.SV.cells, SX.evConv, SX.evSlice, SX.bnd, SX.evNil, SX.evUn, SX.evPick, SX.pickOpd, SX.popTo, SX.cnd, SX.env0, SX.TD.isAgg, SX.TD.isIface, SX.tails, SX.NotAgg, SX.evLookup, SX.evConvH, SX.evPtrEq, SX.isCells, SX.thaw, SX.frz, SX.fixB, SX.rootIx, SX.Froz, SX.frzStep, SX.fork, Go.Value.cells, Go.undef, cfg4, hc]
    refine ⟨by (unfold SX.Ob; first | trivial | omega | ((try simp only [SX.inK]); (try simp [SX.den, SX.IsU8, SX.AllP, *]); (try omega))), ?_⟩
    intro a7 w7 hr7 _
    exact post_retn (end1 hr7 rfl rfl ⟨rfl, hr7.keeps.toBelow⟩).1
  have hc : chkT t = 0 := if_pos hC
  obtain ⟨hF1, _, hF2, hF3⟩ := hF
  refine seg cfg4_ok mixed PanicFree.body 1000 [false] [(26, false)] h6 (by first | trivial | exact HpRep.nil | assumption) (by kernel_rfl) fun s_ hs_ => ?_
  simp (maxSteps := 10000000) [SX.vc, SX.stop, SX.contS, SX.contB, SX.contW, SX.contR, SX.contD, SX.sxStep, SX.stepPure, SX.stepNew, SX.stepStore, SX.stepKeep, SX.guardIx, SX.evOp, SX.opd, SX.opds, SX.optOpd, SX.look, SX.putS, SX.gobs, SX.AllP, SX.leave, SX.lookC, SX.lookB, SX.lookT, SX.lookN, SX.findK, SX.evBuiltin, SX.ints, SX.foldI, SX.evBin, SX.evInt, SX.evStr, SX.evEq, SX.arith, SX.evLoad, SX.shapeUp, SX.evFieldAddr, SX.evField, SX.evIndexAddr, SX.evIndex, SX.evFill, SX.evBuild, SX.szs, SX.cellsV, SX.evNew, SX.evStore, SX.spliceL, SX.SV.cells, SX.evConv, SX.evSlice, SX.bnd, SX.evNil, SX.evUn, SX.evPick, SX.pickOpd, SX.popTo, SX.cnd, SX.env0, SX.TD.isAgg, SX.TD.isIface, SX.tails, SX.NotAgg, SX.evLookup, SX.evConvH, SX.evPtrEq, SX.isCells, SX.thaw, SX.frz, SX.fixB, SX.rootIx, SX.Froz, SX.frzStep, SX.fork, Go.Value.cells, Go.undef, cfg4, hc, tabC]
  refine ⟨by (unfold SX.Ob; first | trivial | omega | ((try simp only [SX.inK]); (try simp [SX.den, SX.IsU8, SX.AllP, *]); (try omega))), ?_⟩
  intro a7 w7 hr7 _
  refine post_call 15 [.ag [.v (.int .i64 t.last), .v (.int .i64 t.now), .v (.slice ad t.L.length cp)], .v (.int .i64 key), .v (.int .i64 host), .v (.int .i64 ttl)] hr7 (by first | exact wanted_none rfl | exact wanted_zero (hr7.env.same rfl rfl rfl rfl) rfl (by simp) | exact wanted_zero (hr7.env.same rfl rfl rfl rfl) rfl (by simp [*])) rfl (callable 15 Try.func15) (Grant_ok w7 _ t key host ttl (hL.below hr7.keeps.toBelow) (by omega) (by omega) (by omega)) ?_
  rintro e8 w8 ⟨v8, rfl, hL8, hb8⟩
  refine ⟨_, rfl, ?_⟩
  have h8 := hr7.ret hb8 37 (.tu [.ag (tabC (grantT t key host ttl) v8), .ag (lseC (grantX t key host ttl)), .v (.int .i64 (grantE t key host ttl))]) rfl _ (hr7.all.below hb8) (by simp) rfl
  by_cases hE : grantE t key host ttl = 0
  rotate_left
  · have hT : grantT t key host ttl = tab0 := if_neg hE
    have hX : grantX t key host ttl = lse0 := if_neg hE
    rw [hT] at hL8
    obtain ⟨ad8, cp8, rfl⟩ := hL8.slice
    have h8 := h8.top 37 (.tu [.ag (tabC tab0 (.slice ad8 0 cp8)), .ag (lseC lse0), .v (.int .i64 (grantE t key host ttl))]) rfl (by rw [hT, hX]; rfl)
    refine seg cfg4_ok mixed PanicFree.body 1000 [true] [(44, true)] h8 (by first | trivial | exact HpRep.nil | assumption) (by kernel_rfl) fun s_ hs_ => ?_
    simp (maxSteps := 10000000) [SX.vc, SX.stop, SX.contS, SX.contB, SX.contW, SX.contR, SX.contD, SX.sxStep, SX.stepPure, SX.stepNew, SX.stepStore, SX.stepKeep, SX.guardIx, SX.evOp, SX.opd, SX.opds, SX.optOpd, SX.look, SX.putS, SX.gobs, SX.AllP, SX.leave, SX.lookC, SX.lookB, SX.lookT, SX.lookN, SX.findK, SX.evBuiltin, SX.ints, SX.foldI, SX.evBin, SX.evInt, SX.evStr, SX.evEq, SX.arith, SX.evLoad, SX.shapeUp, SX.evFieldAddr, SX.evField, SX.evIndexAddr, SX.evIndex, SX.evFill, SX.evBuild, SX.szs, SX.cellsV, SX.evNew, SX.evStore, SX.spliceL, SX.SV.cells, SX.evConv, SX.evSlice, SX.bnd, SX.evNil, SX.evUn, SX.evPick, SX.pickOpd, SX.popTo, SX.cnd, SX.env0, SX.TD.isAgg, SX.TD.isIface, SX.tails, SX.NotAgg, SX.evLookup, SX.evConvH, SX.evPtrEq, SX.isCells, SX.thaw, SX.frz, SX.fixB, SX.rootIx, SX.Froz, SX.frzStep, SX.fork, Go.Value.cells, Go.undef, cfg4, tabC, lseC, hE]
    refine ⟨by (unfold SX.Ob; first | trivial | omega | ((try simp only [SX.inK]); (try simp [SX.den, SX.IsU8, SX.AllP, *]); (try omega))), ?_⟩
    intro a9 w9 hr9 _
    exact post_retn (end1 hr9 rfl rfl ⟨rfl, hr9.keeps.toBelow⟩).1
  have hT : grantT t key host ttl = ⟨t.last + 1, t.now, insK (newX t key host ttl) t.L⟩ := if_pos hE
  have hX : grantX t key host ttl = newX t key host ttl := if_pos hE
  have hOH : GrantOK t key host ttl ∧ ¬ HasK t.L key := by
    unfold grantE at hE
    split at hE
    · rename_i h
      split at hE
      · omega
      · rename_i h'
        exact ⟨h, h'⟩
    · omega
  obtain ⟨hOK, hH⟩ := hOH
  have hsr := chk_srt hC
  obtain ⟨U, hU⟩ : ∃ U : Tab, U = ⟨t.last + 1, t.now, insK (newX t key host ttl) t.L⟩ := ⟨_, rfl⟩
  obtain ⟨V, hV⟩ : ∃ V : Tab, V = ⟨t.last + 1, t.now, t.L⟩ := ⟨_, rfl⟩
  have cU : ChkT U := by rw [hU]; exact chkT_grant hOK
  have cV : ChkT V := by rw [hV]; exact chkT_more hC
  have lenU : U.L.length ≤ 10000 := by
    rw [hU]
    simp only [insK, List.length_append, List.length_cons]
    have h1 := List.length_filter_le (fun y => decide (y.k < (newX t key host ttl).k)) t.L
    have h2 := List.length_filter_le (fun y => decide ((newX t key host ttl).k < y.k)) t.L
    omega
  have hUk : HasK U.L key := by rw [hU]; exact has_ins (x := newX t key host ttl)
  have rE : revE U key = 0 := by rw [revE, if_pos cU, if_pos hUk]
  have rT : revT U key = V := by
    rw [revT, if_pos rE, hU, hV]
    show (⟨t.last + 1, t.now, delK (newX t key host ttl).k (insK (newX t key host ttl) t.L)⟩ : Tab) = _
    rw [del_ins hsr hH]
  have oV : GrantOK V key host ttl := ⟨⟨hOK.1.1, hOK.1.2.1, cV⟩, hOK.2⟩
  have gE : grantE V key host ttl = 0 := by rw [grantE, if_pos oV, if_neg (by rw [hV]; exact hH)]
  obtain ⟨y, hy⟩ : ∃ y : Lse, y = ⟨key, host, t.last + 1 + 1, t.now + ttl⟩ := ⟨_, rfl⟩
  have gX : grantX V key host ttl = y := by rw [grantX, if_pos gE, hV, hy]; rfl
  obtain ⟨W, hW⟩ : ∃ W : Tab, W = ⟨t.last + 1 + 1, t.now, insK y t.L⟩ := ⟨_, rfl⟩
  have gT : grantT V key host ttl = W := by rw [grantT, if_pos gE, hV, hW, hy]; rfl
  have cW : ChkT W := by
    have := chkT_grant oV
    rw [hV] at this
    rw [hW, hy]
    exact this
  have lenW : W.L.length ≤ 10000 := by
    rw [hW]
    simp only [insK, List.length_append, List.length_cons]
    have h1 := List.length_filter_le (fun z => decide (z.k < y.k)) t.L
    have h2 := List.length_filter_le (fun z => decide (y.k < z.k)) t.L
    omega
  have hyW : y ∈ W.L := by rw [hW]; exact mem_insK.2 (.inl rfl)
  have hyk : y.k = key := by rw [hy]
  have hWk : HasK W.L key := ⟨y, hyW, hyk⟩
  have hget : getK W.L key = y := by rw [← hyk]; exact get_ins cW hyW
  have gW : GoodT W ttl := ⟨hOK.1.1, hOK.1.2.1, cW⟩
  have nE1 : renE W key host (t.last + 1) ttl = 61 := by
    rw [renE, if_pos gW, if_pos hWk, hget, if_neg]
    rw [hy]
    simp only
    omega
  have nE2 : renE W key host (t.last + 1 + 1) ttl = 0 := by
    rw [renE, if_pos gW, if_pos hWk, hget, if_pos]
    rw [hy]
    exact ⟨rfl, rfl⟩
  rw [hT, ← hU] at hL8
  obtain ⟨ad8, cp8, rfl⟩ := hL8.slice
  have l0 : 0 ≤ t.last := hC.2.1
  have z0 : 0 ≤ t.now := hC.2.2
  have tt1 : 1 ≤ ttl := hOK.1.1
  have tt2 : ttl ≤ 1099511627776 := hOK.1.2.1
  have h8 := h8.top 37 (.tu [.ag [.v (.int .i64 (t.last + 1)), .v (.int .i64 t.now), .v (.slice ad8 U.L.length cp8)], .ag [.v (.int .i64 key), .v (.int .i64 host), .v (.int .i64 (t.last + 1)), .v (.int .i64 (t.now + ttl))], .v (.int .i64 0)]) rfl (by rw [hT, hX, hE, ← hU]; rw [hU]; rfl)
  refine seg cfg4_ok mixed PanicFree.body 1000 [false] [] h8.rebase (by first | trivial | exact HpRep.nil | assumption) (by kernel_rfl) fun s_ hs_ => ?_
  simp (maxSteps := 10000000) [SX.vc, SX.stop, SX.contS, SX.contB, SX.contW, SX.contR, SX.contD, SX.sxStep, SX.stepPure, SX.stepNew, SX.stepStore, SX.stepKeep, SX.guardIx, SX.evOp, SX.opd, SX.opds, SX.optOpd, SX.look, SX.putS, SX.gobs, SX.AllP, SX.leave, SX.lookC, SX.lookB, SX.lookT, SX.lookN, SX.findK, SX.evBuiltin, SX.ints, SX.foldI, SX.evBin, SX.evInt, SX.evStr, SX.evEq, SX.arith, SX.evLoad, SX.shapeUp, SX.evFieldAddr, SX.evField, SX.evIndexAddr, SX.evIndex, SX.evFill, SX.evBuild, SX.szs, SX.cellsV, SX.evNew, SX.evStore, SX.spliceL, SX.SV.cells, SX.evConv, SX.evSlice, SX.bnd, SX.evNil, SX.evUn, SX.evPick, SX.pickOpd, SX.popTo, SX.cnd, SX.env0, SX.TD.isAgg, SX.TD.isIface, SX.tails, SX.NotAgg, SX.evLookup, SX.evConvH, SX.evPtrEq, SX.isCells, SX.thaw, SX.frz, SX.fixB, SX.rootIx, SX.Froz, SX.frzStep, SX.fork, Go.Value.cells, Go.undef, cfg4]
  refine ⟨by (unfold SX.Ob; first | trivial | omega | ((try simp only [SX.inK]); (try simp [SX.den, SX.IsU8, SX.AllP, *]); (try omega))), ?_⟩
  intro a9 w9 hr9' _
  have hr9a := h8.unbase hr9'
  have hU9 := (hL8.keep hr9'.keeps (fun x hx h => absurd (mutB_lt hr7.all x hx) (by omega))).mono (P' := fun _ => True) fun _ _ _ => trivial
  have hr9 := hr9a.see _ (HpAll.imm hr9a.all)
  simp only [List.map_cons, List.map_nil] at hr9
  have eU : tabC U (.slice ad8 U.L.length cp8) = [.v (.int .i64 (t.last + 1)), .v (.int .i64 t.now), .v (.slice ad8 U.L.length cp8)] := by rw [hU]; rfl
  have eV : ∀ v, tabC V v = [.v (.int .i64 (t.last + 1)), .v (.int .i64 t.now), .v v] := fun v => by rw [hV]; rfl
  have eW : ∀ v, tabC W v = [.v (.int .i64 (t.last + 1 + 1)), .v (.int .i64 t.now), .v v] := fun v => by rw [hW]; rfl
  have rv := Revoke_ok w9 _ U key hU9 (by omega)
  rw [eU] at rv
  have rvR := rv.mono (R' := fun e w' => ∃ v1, e = .returned (den (.tu [.ag [.v (.int .i64 (t.last + 1)), .v (.int .i64 t.now), .v v1], .v (.int .i64 0)])) ∧ RdL (fun x => w9.heap.size ≤ x) w' v1 V.L ∧ Below w9.heap.size w9 w') fun e w' ⟨v1, h1, h2, h3⟩ => by
    rw [rT, rE] at h1
    rw [rT] at h2
    exact ⟨v1, by rw [h1, eV], h2, h3⟩
  refine post_call 16 [.ag [.v (.int .i64 (t.last + 1)), .v (.int .i64 t.now), .v (.slice ad8 U.L.length cp8)], .v (.int .i64 key)] hr9 (by first | exact wanted_none rfl | exact wanted_zero (hr9.env.same rfl rfl rfl rfl) rfl (by simp) | exact wanted_zero (hr9.env.same rfl rfl rfl rfl) rfl (by simp [*])) rfl (callable 16 Try.func16) (rvR) ?_
  rintro e10 w10 ⟨v10, rfl, hL10, hb10⟩
  refine ⟨_, rfl, ?_⟩
  have h10 := hr9.ret hb10 53 (.tu [.ag [.v (.int .i64 (t.last + 1)), .v (.int .i64 t.now), .v v10], .v (.int .i64 0)]) rfl _ (hr9.all.below hb10) (by simp) rfl
  obtain ⟨ad10, cp10, rfl⟩ := hL10.slice
  refine seg cfg4_ok mixed PanicFree.body 1000 [] [] h10.rebase (by first | trivial | exact HpRep.nil | assumption) (by kernel_rfl) fun s_ hs_ => ?_
  simp (maxSteps := 10000000) [SX.vc, SX.stop, SX.contS, SX.contB, SX.contW, SX.contR, SX.contD, SX.sxStep, SX.stepPure, SX.stepNew, SX.stepStore, SX.stepKeep, SX.guardIx, SX.evOp, SX.opd, SX.opds, SX.optOpd, SX.look, SX.putS, SX.gobs, SX.AllP, SX.leave, SX.lookC, SX.lookB, SX.lookT, SX.lookN, SX.findK, SX.evBuiltin, SX.ints, SX.foldI, SX.evBin, SX.evInt, SX.evStr, SX.evEq, SX.arith, SX.evLoad, SX.shapeUp, SX.evFieldAddr, SX.evField, SX.evIndexAddr, SX.evIndex, SX.evFill, SX.evBuild, SX.szs, SX.cellsV, SX.evNew, SX.evStore, SX.spliceL, SX.SV.cells, SX.evConv, SX.evSlice, SX.bnd, SX.evNil, SX.evUn, SX.evPick, SX.pickOpd, SX.popTo, SX.cnd, SX.env0, SX.TD.isAgg, SX.TD.isIface, SX.tails, SX.NotAgg, SX.evLookup, SX.evConvH, SX.evPtrEq, SX.isCells, SX.thaw, SX.frz, SX.fixB, SX.rootIx, SX.Froz, SX.frzStep, SX.fork, Go.Value.cells, Go.undef, cfg4]
  refine ⟨by (unfold SX.Ob; first | trivial | omega | ((try simp only [SX.inK]); (try simp [SX.den, SX.IsU8, SX.AllP, *]); (try omega))), ?_⟩
  intro a11 w11 hr11' _
  have hr11a := h10.unbase hr11'
  have hV11 := (hL10.keep hr11'.keeps (by simp [frameAt, mutB])).mono (P' := fun _ => True) fun _ _ _ => trivial
  have hr11 := hr11a.see _ (HpAll.imm hr11a.all)
  simp only [List.map_cons, List.map_nil] at hr11
  have hVl : V.L.length ≤ 100 := by rw [hV]; exact hF1
  have gv := Grant_ok w11 _ V key host ttl hV11 (by omega) (by rw [hV]; show t.last + 1 ≤ _; omega) (by rw [hV]; show t.now ≤ _; omega)
  rw [eV] at gv
  have gvR := gv.mono (R' := fun e w' => ∃ v1, e = .returned (den (.tu [.ag [.v (.int .i64 (t.last + 1 + 1)), .v (.int .i64 t.now), .v v1], .ag [.v (.int .i64 key), .v (.int .i64 host), .v (.int .i64 (t.last + 1 + 1)), .v (.int .i64 (t.now + ttl))], .v (.int .i64 0)])) ∧ RdL (fun x => w11.heap.size ≤ x) w' v1 W.L ∧ Below w11.heap.size w11 w') fun e w' ⟨v1, h1, h2, h3⟩ => by
    rw [gT, gE, gX] at h1
    rw [gT] at h2
    exact ⟨v1, by rw [h1, eW, hy]; rfl, h2, h3⟩
  refine post_call 15 [.ag [.v (.int .i64 (t.last + 1)), .v (.int .i64 t.now), .v (.slice ad10 V.L.length cp10)], .v (.int .i64 key), .v (.int .i64 host), .v (.int .i64 ttl)] hr11 (by first | exact wanted_none rfl | exact wanted_zero (hr11.env.same rfl rfl rfl rfl) rfl (by simp) | exact wanted_zero (hr11.env.same rfl rfl rfl rfl) rfl (by simp [*])) rfl (callable 15 Try.func15) (gvR) ?_
  rintro e12 w12 ⟨v12, rfl, hL12, hb12⟩
  refine ⟨_, rfl, ?_⟩
  have h12 := hr11.ret hb12 61 (.tu [.ag [.v (.int .i64 (t.last + 1 + 1)), .v (.int .i64 t.now), .v v12], .ag [.v (.int .i64 key), .v (.int .i64 host), .v (.int .i64 (t.last + 1 + 1)), .v (.int .i64 (t.now + ttl))], .v (.int .i64 0)]) rfl _ (hr11.all.below hb12) (by simp) rfl
  obtain ⟨ad12, cp12, rfl⟩ := hL12.slice
  have hV12 := hV11.below hb12
  refine seg cfg4_ok mixed PanicFree.body 1000 [false] [(67, false), (71, false), (79, false), (86, false), (93, false)] h12.rebase (by first | trivial | exact HpRep.nil | assumption) (by kernel_rfl) fun s_ hs_ => ?_
  simp (maxSteps := 10000000) [SX.vc, SX.stop, SX.contS, SX.contB, SX.contW, SX.contR, SX.contD, SX.sxStep, SX.stepPure, SX.stepNew, SX.stepStore, SX.stepKeep, SX.guardIx, SX.evOp, SX.opd, SX.opds, SX.optOpd, SX.look, SX.putS, SX.gobs, SX.AllP, SX.leave, SX.lookC, SX.lookB, SX.lookT, SX.lookN, SX.findK, SX.evBuiltin, SX.ints, SX.foldI, SX.evBin, SX.evInt, SX.evStr, SX.evEq, SX.arith, SX.evLoad, SX.shapeUp, SX.evFieldAddr, SX.evField, SX.evIndexAddr, SX.evIndex, SX.evFill, SX.evBuild, SX.szs, SX.cellsV, SX.evNew, SX.evStore, SX.spliceL, SX.SV.cells, SX.evConv, SX.evSlice, SX.bnd, SX.evNil, SX.evUn, SX.evPick, SX.pickOpd, SX.popTo, SX.cnd, SX.env0, SX.TD.isAgg, SX.TD.isIface, SX.tails, SX.NotAgg, SX.evLookup, SX.evConvH, SX.evPtrEq, SX.isCells, SX.thaw, SX.frz, SX.fixB, SX.rootIx, SX.Froz, SX.frzStep, SX.fork, Go.Value.cells, Go.undef, cfg4]
  refine ⟨by (unfold SX.Ob; first | trivial | omega | ((try simp only [SX.inK]); (try simp [SX.den, SX.IsU8, SX.AllP, *]); (try omega))), ?_⟩
  intro a13 w13 hr13' _
  have hr13a := h12.unbase hr13'
  have hV13 := hV12.keep hr13'.keeps (by simp [frameAt, mutB])
  have hW13 := (hL12.keep hr13'.keeps (by simp [frameAt, mutB])).mono (P' := fun _ => True) fun _ _ _ => trivial
  have hr13 := hr13a.see _ (HpAll.imm hr13a.all)
  simp only [List.map_cons, List.map_nil] at hr13
  have n1 := Renew_ok w13 _ W key host (t.last + 1) ttl hW13 (by omega) (by rw [hW]; show t.now ≤ _; omega)
  rw [eW] at n1
  have n1R := n1.mono (R' := fun e w' => ∃ ad cp, e = .returned (den (.tu [.ag [.v (.int .i64 0), .v (.int .i64 0), .v (.slice ad 0 cp)], .v (.int .i64 61)])) ∧ Below w13.heap.size w13 w') fun e w' ⟨v1, h1, h2, h3⟩ => by
    have hT1 : renT W key host (t.last + 1) ttl = tab0 := if_neg (by omega)
    rw [hT1, nE1] at h1
    rw [hT1] at h2
    obtain ⟨a1, c1, rfl⟩ := h2.slice
    exact ⟨a1, c1, by rw [h1]; rfl, h3⟩
  refine post_call 17 [.ag [.v (.int .i64 (t.last + 1 + 1)), .v (.int .i64 t.now), .v (.slice ad12 W.L.length cp12)], .v (.int .i64 key), .v (.int .i64 host), .v (.int .i64 (t.last + 1)), .v (.int .i64 ttl)] hr13 (by first | exact wanted_none rfl | exact wanted_zero (hr13.env.same rfl rfl rfl rfl) rfl (by simp) | exact wanted_zero (hr13.env.same rfl rfl rfl rfl) rfl (by simp [*])) rfl (callable 17 Try.func17) (n1R) ?_
  rintro e14 w14 ⟨ad14, cp14, rfl, hb14⟩
  refine ⟨_, rfl, ?_⟩
  have h14 := hr13.ret hb14 107 (.tu [.ag [.v (.int .i64 0), .v (.int .i64 0), .v (.slice ad14 0 cp14)], .v (.int .i64 61)]) rfl _ (hr13.all.below hb14) (by simp) rfl
  have hV14 := hV13.below hb14
  have hW14 := hW13.below hb14
  refine seg cfg4_ok mixed PanicFree.body 1000 [] [] h14.rebase (by first | trivial | exact HpRep.nil | assumption) (by kernel_rfl) fun s_ hs_ => ?_
  simp (maxSteps := 10000000) [SX.vc, SX.stop, SX.contS, SX.contB, SX.contW, SX.contR, SX.contD, SX.sxStep, SX.stepPure, SX.stepNew, SX.stepStore, SX.stepKeep, SX.guardIx, SX.evOp, SX.opd, SX.opds, SX.optOpd, SX.look, SX.putS, SX.gobs, SX.AllP, SX.leave, SX.lookC, SX.lookB, SX.lookT, SX.lookN, SX.findK, SX.evBuiltin, SX.ints, SX.foldI, SX.evBin, SX.evInt, SX.evStr, SX.evEq, SX.arith, SX.evLoad, SX.shapeUp, SX.evFieldAddr, SX.evField, SX.evIndexAddr, SX.evIndex, SX.evFill, SX.evBuild, SX.szs, SX.cellsV, SX.evNew, SX.evStore, SX.spliceL, SX.SV.cells, SX.evConv, SX.evSlice, SX.bnd, SX.evNil, SX.evUn, SX.evPick, SX.pickOpd, SX.popTo, SX.cnd, SX.env0, SX.TD.isAgg, SX.TD.isIface, SX.tails, SX.NotAgg, SX.evLookup, SX.evConvH, SX.evPtrEq, SX.isCells, SX.thaw, SX.frz, SX.fixB, SX.rootIx, SX.Froz, SX.frzStep, SX.fork, Go.Value.cells, Go.undef, cfg4]
  refine ⟨by (unfold SX.Ob; first | trivial | omega | ((try simp only [SX.inK]); (try simp [SX.den, SX.IsU8, SX.AllP, *]); (try omega))), ?_⟩
  intro a15 w15 hr15' _
  have hr15a := h14.unbase hr15'
  have hV15 := hV14.keep hr15'.keeps (by simp [frameAt, mutB])
  have hW15 := hW14.keep hr15'.keeps (by simp [frameAt, mutB])
  have hr15 := hr15a.see _ (HpAll.imm hr15a.all)
  simp only [List.map_cons, List.map_nil] at hr15
  have n2 := Renew_ok w15 _ W key host (t.last + 1 + 1) ttl hW15 (by omega) (by rw [hW]; show t.now ≤ _; omega)
  rw [eW] at n2
  have n2R := n2.mono (R' := fun e w' => ∃ ad n cp l m, e = .returned (den (.tu [.ag [.v (.int .i64 l), .v (.int .i64 m), .v (.slice ad n cp)], .v (.int .i64 0)])) ∧ Below w15.heap.size w15 w') fun e w' ⟨v1, h1, h2, h3⟩ => by
    rw [nE2] at h1
    obtain ⟨a1, c1, rfl⟩ := h2.slice
    exact ⟨a1, _, c1, _, _, h1, h3⟩
  refine post_call 17 [.ag [.v (.int .i64 (t.last + 1 + 1)), .v (.int .i64 t.now), .v (.slice ad12 W.L.length cp12)], .v (.int .i64 key), .v (.int .i64 host), .v (.int .i64 (t.last + 1 + 1)), .v (.int .i64 ttl)] hr15 (by first | exact wanted_none rfl | exact wanted_zero (hr15.env.same rfl rfl rfl rfl) rfl (by simp) | exact wanted_zero (hr15.env.same rfl rfl rfl rfl) rfl (by simp [*])) rfl (callable 17 Try.func17) (n2R) ?_
  rintro e16 w16 ⟨ad16, n16, cp16, l16, m16, rfl, hb16⟩
  refine ⟨_, rfl, ?_⟩
  have h16 := hr15.ret hb16 117 (.tu [.ag [.v (.int .i64 l16), .v (.int .i64 m16), .v (.slice ad16 n16 cp16)], .v (.int .i64 0)]) rfl _ (hr15.all.below hb16) (by simp) rfl
  have hV16 := hV15.below hb16
  refine seg cfg4_ok mixed PanicFree.body 1000 [] [(121, true)] h16.rebase (by first | trivial | exact HpRep.nil | assumption) (by kernel_rfl) fun s_ hs_ => ?_
  simp (maxSteps := 10000000) [SX.vc, SX.stop, SX.contS, SX.contB, SX.contW, SX.contR, SX.contD, SX.sxStep, SX.stepPure, SX.stepNew, SX.stepStore, SX.stepKeep, SX.guardIx, SX.evOp, SX.opd, SX.opds, SX.optOpd, SX.look, SX.putS, SX.gobs, SX.AllP, SX.leave, SX.lookC, SX.lookB, SX.lookT, SX.lookN, SX.findK, SX.evBuiltin, SX.ints, SX.foldI, SX.evBin, SX.evInt, SX.evStr, SX.evEq, SX.arith, SX.evLoad, SX.shapeUp, SX.evFieldAddr, SX.evField, SX.evIndexAddr, SX.evIndex, SX.evFill, SX.evBuild, SX.szs, SX.cellsV, SX.evNew, SX.evStore, SX.spliceL, SX.SV.cells, SX.evConv, SX.evSlice, SX.bnd, SX.evNil, SX.evUn, SX.evPick, SX.pickOpd, SX.popTo, SX.cnd, SX.env0, SX.TD.isAgg, SX.TD.isIface, SX.tails, SX.NotAgg, SX.evLookup, SX.evConvH, SX.evPtrEq, SX.isCells, SX.thaw, SX.frz, SX.fixB, SX.rootIx, SX.Froz, SX.frzStep, SX.fork, Go.Value.cells, Go.undef, cfg4]
  refine ⟨by (unfold SX.Ob; first | trivial | omega | ((try simp only [SX.inK]); (try simp [SX.den, SX.IsU8, SX.AllP, *]); (try omega))), ?_⟩
  intro a17 w17 hr17' _
  have hr17 := h16.unbase hr17'
  have hV17 := hV16.keep hr17'.keeps (by simp [frameAt, mutB])
  have eVL : V.L = t.L := by rw [hV]
  refine post_call 18 [.v (.slice ad10 V.L.length cp10), .v (.slice ad t.L.length cp)] hr17 (by first | exact wanted_none rfl | exact wanted_zero (hr17.env.same rfl rfl rfl rfl) rfl (by simp) | exact wanted_zero (hr17.env.same rfl rfl rfl rfl) rfl (by simp [*])) rfl (callable 18 Try.func18) (same_ok w17 (.slice ad10 V.L.length cp10) (.slice ad t.L.length cp) V.L t.L hV17 (hL.below hr17.keeps.toBelow) (by omega)) ?_
  rintro e18 w18 ⟨rfl, hb18⟩
  refine ⟨_, rfl, ?_⟩
  have h18 := hr17.ret hb18 126 (.v (.bool (decide (V.L = t.L)))) rfl _ (hr17.all.below hb18) (by simp) rfl
  refine seg cfg4_ok mixed PanicFree.body 1000 [] [(121, true), (128, true), (132, true)] h18 (by first | trivial | exact HpRep.nil | assumption) (by kernel_rfl) fun s_ hs_ => ?_
  simp (maxSteps := 10000000) [SX.vc, SX.stop, SX.contS, SX.contB, SX.contW, SX.contR, SX.contD, SX.sxStep, SX.stepPure, SX.stepNew, SX.stepStore, SX.stepKeep, SX.guardIx, SX.evOp, SX.opd, SX.opds, SX.optOpd, SX.look, SX.putS, SX.gobs, SX.AllP, SX.leave, SX.lookC, SX.lookB, SX.lookT, SX.lookN, SX.findK, SX.evBuiltin, SX.ints, SX.foldI, SX.evBin, SX.evInt, SX.evStr, SX.evEq, SX.arith, SX.evLoad, SX.shapeUp, SX.evFieldAddr, SX.evField, SX.evIndexAddr, SX.evIndex, SX.evFill, SX.evBuild, SX.szs, SX.cellsV, SX.evNew, SX.evStore, SX.spliceL, SX.SV.cells, SX.evConv, SX.evSlice, SX.bnd, SX.evNil, SX.evUn, SX.evPick, SX.pickOpd, SX.popTo, SX.cnd, SX.env0, SX.TD.isAgg, SX.TD.isIface, SX.tails, SX.NotAgg, SX.evLookup, SX.evConvH, SX.evPtrEq, SX.isCells, SX.thaw, SX.frz, SX.fixB, SX.rootIx, SX.Froz, SX.frzStep, SX.fork, Go.Value.cells, Go.undef, cfg4, eVL]
  refine ⟨by (unfold SX.Ob; first | trivial | omega | ((try simp only [SX.inK]); (try simp [SX.den, SX.IsU8, SX.AllP, *]); (try omega))), ?_⟩
  intro a19 w19 hr19 _
  exact post_retn (end1 hr19 rfl rfl ⟨by simp [den], hr19.keeps.toBelow⟩).1
end Go.Proofs
