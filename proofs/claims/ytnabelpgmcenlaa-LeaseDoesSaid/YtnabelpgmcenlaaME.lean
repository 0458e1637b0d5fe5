/- Leases: the document's Renew. -/
import Derived.Test.YtnabelpgmcenlaaMA
import Derived.Test.YtnabelpgmcenlaaLL
import Derived.Test.YtnabelpgmcenlaaLP
namespace Go.Proofs
set_option linter.unusedVariables false
set_option linter.unusedSimpArgs false
open Go Go.SX Go.RowKit

def RRenLoop (w : World) (t : Tab) (key host epoch ttl : Int) (X : Lse) (vT : Value) (c5 c10 c12 c14 bo N cap u : Nat) (m : Nat) (a : Act) (w' : World) : Prop :=
  ∃ (k : Nat) (row : Nat → List SV), m = t.L.length - k ∧ k ≤ t.L.length ∧ (∀ j, j < t.L.length → row j = lseC (if j < k then upK key (t.now + ttl) (nth lse0 t.L j) else nth lse0 t.L j)) ∧ RepX (frame0 w) ⟨[(53, 0, .v (.int .i64 k)), (52, 0, .v (.int .i64 t.L.length)), (1, 0, .v (.int .i64 key)), (4, 0, .v (.int .i64 ttl)), (5, 0, .ptr 0 c5 0), (10, 0, .ptr 1 c10 0), (12, 0, .ptr 2 c12 0), (14, 0, .ptr 3 c14 0)], [(c5, true, .cells [.v (.int .i64 t.last), .v (.int .i64 t.now), .v vT] 24), (c10, true, .cells [.v (.int .i64 0), .v (.int .i64 0), .v (.slice none 0 0)] 24), (c12, true, .cells [.v (.int .i64 X.k), .v (.int .i64 host), .v (.int .i64 epoch), .v (.int .i64 X.u)] 33), (c14, true, .cells [.v (.int .i64 t.last), .v (.int .i64 t.now), .sl 4 bo 0 0 t.L.length cap 4] 24), (bo, true, .arr 0 N row 4 u (0, 0))], 0, 0, 78, [], [], []⟩ a w'

set_option maxRecDepth 100000 in
set_option maxHeartbeats 32000000 in
/-- The document's Renew. -/
theorem rRenew_ok {P : Nat → Prop} (w : World) (v : Value) (t : Tab) (key host epoch ttl : Int) (hL : RdL P w v t.L) (hn : t.L.length ≤ 100000) (hl2 : t.now ≤ 2305843009213693952) : Calls Try.prog 46 (denL [.ag (tabC t v), .v (.int .i64 key), .v (.int .i64 host), .v (.int .i64 epoch), .v (.int .i64 ttl)]).toArray w (RenR w t key host epoch ttl) := by
  obtain ⟨ad, cp, rfl⟩ := hL.slice
  refine enter (F := frame0 w) Try.func46 rfl [.ag (tabC t (.slice ad t.L.length cp)), .v (.int .i64 key), .v (.int .i64 host), .v (.int .i64 epoch), .v (.int .i64 ttl)] [] (by simp [Try.f46]) trivial (keeps0 w) fun a hr => ?_
  refine seg cfg46_ok mixed PanicFree.body 1000 [] [] hr (by first | trivial | exact HpRep.nil | assumption) (by kernel_rfl) fun sA hsA => ?_
  simp (maxSteps := 10000000) [SX.vc, SX.stop, SX.contS, SX.contB, SX.contW, SX.contR, SX.contD, SX.sxStep, SX.stepPure, SX.stepNew, SX.stepStore, SX.stepKeep, SX.guardIx, SX.evOp, SX.opd, SX.opds, SX.optOpd, SX.look, SX.putS, SX.gobs, SX.AllP, SX.leave, SX.lookC, SX.lookB, SX.lookT, SX.lookN, SX.findK, SX.evBuiltin, SX.ints, SX.foldI, SX.evBin, SX.evInt, SX.evStr, SX.evEq, SX.arith, SX.evLoad, SX.shapeUp, SX.evFieldAddr, SX.evField, SX.evIndexAddr, SX.evIndex, SX.evFill, SX.evBuild, SX.szs, SX.cellsV, SX.evNew, SX.evStore, SX.spliceL, SX.SV.cells, SX.evConv, SX.evSlice, SX.bnd, SX.evNil, SX.evUn, SX.evPick, SX.pickOpd, SX.popTo, SX.cnd, SX.env0, SX.TD.isAgg, SX.TD.isIface, SX.tails, SX.NotAgg, SX.evLookup, SX.evConvH, SX.evPtrEq, SX.isCells, SX.thaw, SX.frz, SX.fixB, SX.rootIx, SX.Froz, SX.frzStep, SX.fork, Go.Value.cells, Go.undef, cfg46, Try.f46, tabC]
  refine ⟨by (unfold SX.Ob; first | trivial | omega | ((try simp only [SX.inK]); (try simp [SX.den, SX.IsU8, SX.AllP, *]); (try omega))), ?_⟩
  intro a1 w1 hr1 _
  refine post_call 11 [.ag [.v (.int .i64 t.last), .v (.int .i64 t.now), .v (.slice ad t.L.length cp)]] hr1 (by first | exact wanted_none rfl | exact wanted_zero (hr1.env.same rfl rfl rfl rfl) rfl (by simp) | exact wanted_zero (hr1.env.same rfl rfl rfl rfl) rfl (by simp [*])) rfl (callable 11 Try.func11) (rcheck_ok w1 _ t (hL.below hr1.keeps.toBelow) (by omega)) ?_
  rintro e2 w2 ⟨rfl, hb2⟩
  refine ⟨_, rfl, ?_⟩
  have h2 := hr1.ret hb2 17 (.v (.int .i64 (chkT t))) rfl _ (hr1.all.below hb2) (by simp) rfl
  have bad : ¬ GoodT t ttl → renE t key host epoch ttl = 1 ∧ renT t key host epoch ttl = tab0 := fun h => by
    have h1 : renE t key host epoch ttl = 1 := if_neg h
    exact ⟨h1, if_neg (by omega)⟩
  by_cases hC : ChkT t
  rotate_left
  · have hc : chkT t = 1 := if_neg hC
    obtain ⟨hE, hT⟩ := bad fun h => hC h.2.2
    refine seg cfg46_ok mixed PanicFree.body 1000 [true] [(19, true), (23, true)] h2 (by first | trivial | exact HpRep.nil | assumption) (by kernel_rfl) fun s_ hs_ => ?_
    simp (maxSteps := 10000000) [SX.vc, SX.stop, SX.contS, SX.contB, SX.contW, SX.contR, SX.contD, SX.sxStep, SX.stepPure, SX.stepNew, SX.stepStore, SX.stepKeep, SX.guardIx, SX.evOp, SX.opd, SX.opds, SX.optOpd, SX.look, SX.putS, SX.gobs, SX.AllP, SX.leave, SX.lookC, SX.lookB, SX.lookT, SX.lookN, SX.findK, SX.evBuiltin, SX.ints, SX.foldI, SX.evBin, SX.evInt, SX.evStr, SX.evEq, SX.arith, SX.evLoad, SX.shapeUp, SX.evFieldAddr, SX.evField, SX.evIndexAddr, SX.evIndex, SX.evFill, SX.evBuild, SX.szs, SX.cellsV, SX.evNew, SX.evStore, SX.spliceL, SX.SV.cells, SX.evConv, SX.evSlice, SX.bnd, SX.evNil, SX.evUn, SX.evPick, SX.pickOpd, SX.popTo, SX.cnd, SX.env0, SX.TD.isAgg, SX.TD.isIface, SX.tails, SX.NotAgg, SX.evLookup, SX.evConvH, SX.evPtrEq, SX.isCells, SX.thaw, SX.frz, SX.fixB, SX.rootIx, SX.Froz, SX.frzStep, SX.fork, Go.Value.cells, Go.undef, cfg46, hc]
    refine ⟨by (unfold SX.Ob; first | trivial | omega | ((try simp only [SX.inK]); (try simp [SX.den, SX.IsU8, SX.AllP, *]); (try omega))), ?_⟩
    intro a3 w3 hr3 _
    exact post_retn (endC2 hr3 rfl rfl rfl tok24 rfl rfl ⟨.slice none 0 0, by rw [hE, hT]; simp [den, denL, tabC, tab0], by rw [hT]; exact OwS.nil.rd, hr3.keeps.toBelow⟩).1
  have hc : chkT t = 0 := if_pos hC
  by_cases c1 : ttl < 1
  · obtain ⟨hE, hT⟩ := bad fun h => by have := h.1; omega
    refine seg cfg46_ok mixed PanicFree.body 1000 [true] [(19, false), (23, true)] h2 (by first | trivial | exact HpRep.nil | assumption) (by kernel_rfl) fun s_ hs_ => ?_
    simp (maxSteps := 10000000) [SX.vc, SX.stop, SX.contS, SX.contB, SX.contW, SX.contR, SX.contD, SX.sxStep, SX.stepPure, SX.stepNew, SX.stepStore, SX.stepKeep, SX.guardIx, SX.evOp, SX.opd, SX.opds, SX.optOpd, SX.look, SX.putS, SX.gobs, SX.AllP, SX.leave, SX.lookC, SX.lookB, SX.lookT, SX.lookN, SX.findK, SX.evBuiltin, SX.ints, SX.foldI, SX.evBin, SX.evInt, SX.evStr, SX.evEq, SX.arith, SX.evLoad, SX.shapeUp, SX.evFieldAddr, SX.evField, SX.evIndexAddr, SX.evIndex, SX.evFill, SX.evBuild, SX.szs, SX.cellsV, SX.evNew, SX.evStore, SX.spliceL, SX.SV.cells, SX.evConv, SX.evSlice, SX.bnd, SX.evNil, SX.evUn, SX.evPick, SX.pickOpd, SX.popTo, SX.cnd, SX.env0, SX.TD.isAgg, SX.TD.isIface, SX.tails, SX.NotAgg, SX.evLookup, SX.evConvH, SX.evPtrEq, SX.isCells, SX.thaw, SX.frz, SX.fixB, SX.rootIx, SX.Froz, SX.frzStep, SX.fork, Go.Value.cells, Go.undef, cfg46, hc, c1]
    refine ⟨by (unfold SX.Ob; first | trivial | omega | ((try simp only [SX.inK]); (try simp [SX.den, SX.IsU8, SX.AllP, *]); (try omega))), ?_⟩
    intro a3 w3 hr3 _
    exact post_retn (endC2 hr3 rfl rfl rfl tok24 rfl rfl ⟨.slice none 0 0, by rw [hE, hT]; simp [den, denL, tabC, tab0], by rw [hT]; exact OwS.nil.rd, hr3.keeps.toBelow⟩).1
  by_cases c2 : 1099511627776 < ttl
  · obtain ⟨hE, hT⟩ := bad fun h => by have := h.2.1; omega
    refine seg cfg46_ok mixed PanicFree.body 1000 [true] [(19, false), (23, false)] h2 (by first | trivial | exact HpRep.nil | assumption) (by kernel_rfl) fun s_ hs_ => ?_
    simp (maxSteps := 10000000) [SX.vc, SX.stop, SX.contS, SX.contB, SX.contW, SX.contR, SX.contD, SX.sxStep, SX.stepPure, SX.stepNew, SX.stepStore, SX.stepKeep, SX.guardIx, SX.evOp, SX.opd, SX.opds, SX.optOpd, SX.look, SX.putS, SX.gobs, SX.AllP, SX.leave, SX.lookC, SX.lookB, SX.lookT, SX.lookN, SX.findK, SX.evBuiltin, SX.ints, SX.foldI, SX.evBin, SX.evInt, SX.evStr, SX.evEq, SX.arith, SX.evLoad, SX.shapeUp, SX.evFieldAddr, SX.evField, SX.evIndexAddr, SX.evIndex, SX.evFill, SX.evBuild, SX.szs, SX.cellsV, SX.evNew, SX.evStore, SX.spliceL, SX.SV.cells, SX.evConv, SX.evSlice, SX.bnd, SX.evNil, SX.evUn, SX.evPick, SX.pickOpd, SX.popTo, SX.cnd, SX.env0, SX.TD.isAgg, SX.TD.isIface, SX.tails, SX.NotAgg, SX.evLookup, SX.evConvH, SX.evPtrEq, SX.isCells, SX.thaw, SX.frz, SX.fixB, SX.rootIx, SX.Froz, SX.frzStep, SX.fork, Go.Value.cells, Go.undef, cfg46, hc, c1, c2]
    refine ⟨by (unfold SX.Ob; first | trivial | omega | ((try simp only [SX.inK]); (try simp [SX.den, SX.IsU8, SX.AllP, *]); (try omega))), ?_⟩
    intro a3 w3 hr3 _
    exact post_retn (endC2 hr3 rfl rfl rfl tok24 rfl rfl ⟨.slice none 0 0, by rw [hE, hT]; simp [den, denL, tabC, tab0], by rw [hT]; exact OwS.nil.rd, hr3.keeps.toBelow⟩).1
  have hGd : GoodT t ttl := ⟨by omega, by omega, hC⟩
  have hsr := chk_srt hC
  have hn0 := hC.2.2
  refine seg cfg46_ok mixed PanicFree.body 1000 [false] [(19, false), (23, false)] h2 (by first | trivial | exact HpRep.nil | assumption) (by kernel_rfl) fun s_ hs_ => ?_
  simp (maxSteps := 10000000) [SX.vc, SX.stop, SX.contS, SX.contB, SX.contW, SX.contR, SX.contD, SX.sxStep, SX.stepPure, SX.stepNew, SX.stepStore, SX.stepKeep, SX.guardIx, SX.evOp, SX.opd, SX.opds, SX.optOpd, SX.look, SX.putS, SX.gobs, SX.AllP, SX.leave, SX.lookC, SX.lookB, SX.lookT, SX.lookN, SX.findK, SX.evBuiltin, SX.ints, SX.foldI, SX.evBin, SX.evInt, SX.evStr, SX.evEq, SX.arith, SX.evLoad, SX.shapeUp, SX.evFieldAddr, SX.evField, SX.evIndexAddr, SX.evIndex, SX.evFill, SX.evBuild, SX.szs, SX.cellsV, SX.evNew, SX.evStore, SX.spliceL, SX.SV.cells, SX.evConv, SX.evSlice, SX.bnd, SX.evNil, SX.evUn, SX.evPick, SX.pickOpd, SX.popTo, SX.cnd, SX.env0, SX.TD.isAgg, SX.TD.isIface, SX.tails, SX.NotAgg, SX.evLookup, SX.evConvH, SX.evPtrEq, SX.isCells, SX.thaw, SX.frz, SX.fixB, SX.rootIx, SX.Froz, SX.frzStep, SX.fork, Go.Value.cells, Go.undef, cfg46, hc, c1, c2]
  refine ⟨by (unfold SX.Ob; first | trivial | omega | ((try simp only [SX.inK]); (try simp [SX.den, SX.IsU8, SX.AllP, *]); (try omega))), ?_⟩
  intro a3 w3 hr3 _
  refine post_call 20 [.ag [.v (.int .i64 t.last), .v (.int .i64 t.now), .v (.slice ad t.L.length cp)], .v (.int .i64 key)] hr3 (by first | exact wanted_none rfl | exact wanted_zero (hr3.env.same rfl rfl rfl rfl) rfl (by simp) | exact wanted_zero (hr3.env.same rfl rfl rfl rfl) rfl (by simp [*])) rfl (callable 20 Try.func20) (rHolder_ok w3 _ t key (hL.below hr3.keeps.toBelow) (by omega)) ?_
  rintro e4 w4 ⟨rfl, hb4⟩
  refine ⟨_, rfl, ?_⟩
  have h4 := hr3.ret hb4 31 (.tu [.ag (lseC (holdX t key)), .v (.bool (decide (HasT t key)))]) rfl _ (hr3.all.below hb4) (by simp) rfl
  by_cases hH : HasK t.L key
  rotate_left
  · have hE : renE t key host epoch ttl = 4 := by rw [renE, if_pos hGd, if_neg hH]
    have hT : renT t key host epoch ttl = tab0 := if_neg (by omega)
    have hHT : ¬ HasT t key := fun h => hH h.2
    refine seg cfg46_ok mixed PanicFree.body 1000 [true] [] h4 (by first | trivial | exact HpRep.nil | assumption) (by kernel_rfl) fun s_ hs_ => ?_
    simp (maxSteps := 10000000) [SX.vc, SX.stop, SX.contS, SX.contB, SX.contW, SX.contR, SX.contD, SX.sxStep, SX.stepPure, SX.stepNew, SX.stepStore, SX.stepKeep, SX.guardIx, SX.evOp, SX.opd, SX.opds, SX.optOpd, SX.look, SX.putS, SX.gobs, SX.AllP, SX.leave, SX.lookC, SX.lookB, SX.lookT, SX.lookN, SX.findK, SX.evBuiltin, SX.ints, SX.foldI, SX.evBin, SX.evInt, SX.evStr, SX.evEq, SX.arith, SX.evLoad, SX.shapeUp, SX.evFieldAddr, SX.evField, SX.evIndexAddr, SX.evIndex, SX.evFill, SX.evBuild, SX.szs, SX.cellsV, SX.evNew, SX.evStore, SX.spliceL, SX.SV.cells, SX.evConv, SX.evSlice, SX.bnd, SX.evNil, SX.evUn, SX.evPick, SX.pickOpd, SX.popTo, SX.cnd, SX.env0, SX.TD.isAgg, SX.TD.isIface, SX.tails, SX.NotAgg, SX.evLookup, SX.evConvH, SX.evPtrEq, SX.isCells, SX.thaw, SX.frz, SX.fixB, SX.rootIx, SX.Froz, SX.frzStep, SX.fork, Go.Value.cells, Go.undef, cfg46, hHT, lseC]
    refine ⟨by (unfold SX.Ob; first | trivial | omega | ((try simp only [SX.inK]); (try simp [SX.den, SX.IsU8, SX.AllP, *]); (try omega))), ?_⟩
    intro a5 w5 hr5 _
    exact post_retn (endC2 hr5 rfl rfl rfl tok24 rfl rfl ⟨.slice none 0 0, by rw [hE, hT]; simp [den, denL, tabC, tab0], by rw [hT]; exact OwS.nil.rd, hr5.keeps.toBelow⟩).1
  have hHT : HasT t key := ⟨hC, hH⟩
  obtain ⟨X, hX⟩ : ∃ X, getK t.L key = X := ⟨_, rfl⟩
  have hhX : holdX t key = X := (if_pos hHT).trans hX
  have hXm : X ∈ t.L ∧ X.k = key := hX ▸ hasK_get hH
  by_cases d1 : X.h = host
  rotate_left
  · have hE : renE t key host epoch ttl = 61 := by rw [renE, if_pos hGd, if_pos hH, if_neg (by rw [hX]; exact fun h => d1 h.1)]
    have hT : renT t key host epoch ttl = tab0 := if_neg (by omega)
    refine seg cfg46_ok mixed PanicFree.body 1000 [false, true] [(41, true)] h4 (by first | trivial | exact HpRep.nil | assumption) (by kernel_rfl) fun s_ hs_ => ?_
    simp (maxSteps := 10000000) [SX.vc, SX.stop, SX.contS, SX.contB, SX.contW, SX.contR, SX.contD, SX.sxStep, SX.stepPure, SX.stepNew, SX.stepStore, SX.stepKeep, SX.guardIx, SX.evOp, SX.opd, SX.opds, SX.optOpd, SX.look, SX.putS, SX.gobs, SX.AllP, SX.leave, SX.lookC, SX.lookB, SX.lookT, SX.lookN, SX.findK, SX.evBuiltin, SX.ints, SX.foldI, SX.evBin, SX.evInt, SX.evStr, SX.evEq, SX.arith, SX.evLoad, SX.shapeUp, SX.evFieldAddr, SX.evField, SX.evIndexAddr, SX.evIndex, SX.evFill, SX.evBuild, SX.szs, SX.cellsV, SX.evNew, SX.evStore, SX.spliceL, SX.SV.cells, SX.evConv, SX.evSlice, SX.bnd, SX.evNil, SX.evUn, SX.evPick, SX.pickOpd, SX.popTo, SX.cnd, SX.env0, SX.TD.isAgg, SX.TD.isIface, SX.tails, SX.NotAgg, SX.evLookup, SX.evConvH, SX.evPtrEq, SX.isCells, SX.thaw, SX.frz, SX.fixB, SX.rootIx, SX.Froz, SX.frzStep, SX.fork, Go.Value.cells, Go.undef, cfg46, hHT, lseC, hhX, d1]
    refine ⟨by (unfold SX.Ob; first | trivial | omega | ((try simp only [SX.inK]); (try simp [SX.den, SX.IsU8, SX.AllP, *]); (try omega))), ?_⟩
    intro a5 w5 hr5 _
    exact post_retn (endC2 hr5 rfl rfl rfl tok24 rfl rfl ⟨.slice none 0 0, by rw [hE, hT]; simp [den, denL, tabC, tab0], by rw [hT]; exact OwS.nil.rd, hr5.keeps.toBelow⟩).1
  by_cases d2 : X.e = epoch
  rotate_left
  · have hE : renE t key host epoch ttl = 61 := by rw [renE, if_pos hGd, if_pos hH, if_neg (by rw [hX]; exact fun h => d2 h.2)]
    have hT : renT t key host epoch ttl = tab0 := if_neg (by omega)
    refine seg cfg46_ok mixed PanicFree.body 1000 [false, true] [(41, false)] h4 (by first | trivial | exact HpRep.nil | assumption) (by kernel_rfl) fun s_ hs_ => ?_
    simp (maxSteps := 10000000) [SX.vc, SX.stop, SX.contS, SX.contB, SX.contW, SX.contR, SX.contD, SX.sxStep, SX.stepPure, SX.stepNew, SX.stepStore, SX.stepKeep, SX.guardIx, SX.evOp, SX.opd, SX.opds, SX.optOpd, SX.look, SX.putS, SX.gobs, SX.AllP, SX.leave, SX.lookC, SX.lookB, SX.lookT, SX.lookN, SX.findK, SX.evBuiltin, SX.ints, SX.foldI, SX.evBin, SX.evInt, SX.evStr, SX.evEq, SX.arith, SX.evLoad, SX.shapeUp, SX.evFieldAddr, SX.evField, SX.evIndexAddr, SX.evIndex, SX.evFill, SX.evBuild, SX.szs, SX.cellsV, SX.evNew, SX.evStore, SX.spliceL, SX.SV.cells, SX.evConv, SX.evSlice, SX.bnd, SX.evNil, SX.evUn, SX.evPick, SX.pickOpd, SX.popTo, SX.cnd, SX.env0, SX.TD.isAgg, SX.TD.isIface, SX.tails, SX.NotAgg, SX.evLookup, SX.evConvH, SX.evPtrEq, SX.isCells, SX.thaw, SX.frz, SX.fixB, SX.rootIx, SX.Froz, SX.frzStep, SX.fork, Go.Value.cells, Go.undef, cfg46, hHT, lseC, hhX, d1, d2]
    refine ⟨by (unfold SX.Ob; first | trivial | omega | ((try simp only [SX.inK]); (try simp [SX.den, SX.IsU8, SX.AllP, *]); (try omega))), ?_⟩
    intro a5 w5 hr5 _
    exact post_retn (endC2 hr5 rfl rfl rfl tok24 rfl rfl ⟨.slice none 0 0, by rw [hE, hT]; simp [den, denL, tabC, tab0], by rw [hT]; exact OwS.nil.rd, hr5.keeps.toBelow⟩).1
  have hE : renE t key host epoch ttl = 0 := by rw [renE, if_pos hGd, if_pos hH, if_pos (by rw [hX]; exact ⟨d1, d2⟩)]
  have hT : renT t key host epoch ttl = ⟨t.last, t.now, t.L.map (upK key (t.now + ttl))⟩ := if_pos hE
  refine seg cfg46_ok mixed PanicFree.body 1000 [false, false] [(41, false)] h4 (by first | trivial | exact HpRep.nil | assumption) (by kernel_rfl) fun sB hsB => ?_
  simp (maxSteps := 10000000) [SX.vc, SX.stop, SX.contS, SX.contB, SX.contW, SX.contR, SX.contD, SX.sxStep, SX.stepPure, SX.stepNew, SX.stepStore, SX.stepKeep, SX.guardIx, SX.evOp, SX.opd, SX.opds, SX.optOpd, SX.look, SX.putS, SX.gobs, SX.AllP, SX.leave, SX.lookC, SX.lookB, SX.lookT, SX.lookN, SX.findK, SX.evBuiltin, SX.ints, SX.foldI, SX.evBin, SX.evInt, SX.evStr, SX.evEq, SX.arith, SX.evLoad, SX.shapeUp, SX.evFieldAddr, SX.evField, SX.evIndexAddr, SX.evIndex, SX.evFill, SX.evBuild, SX.szs, SX.cellsV, SX.evNew, SX.evStore, SX.spliceL, SX.SV.cells, SX.evConv, SX.evSlice, SX.bnd, SX.evNil, SX.evUn, SX.evPick, SX.pickOpd, SX.popTo, SX.cnd, SX.env0, SX.TD.isAgg, SX.TD.isIface, SX.tails, SX.NotAgg, SX.evLookup, SX.evConvH, SX.evPtrEq, SX.isCells, SX.thaw, SX.frz, SX.fixB, SX.rootIx, SX.Froz, SX.frzStep, SX.fork, Go.Value.cells, Go.undef, cfg46, hHT, lseC, hhX, d1, d2]
  refine ⟨by (unfold SX.Ob; first | trivial | omega | ((try simp only [SX.inK]); (try simp [SX.den, SX.IsU8, SX.AllP, *]); (try omega))), ?_⟩
  intro a5 w5 hr5 _
  refine post_call 22 [.ag [.v (.int .i64 t.last), .v (.int .i64 t.now), .v (.slice ad t.L.length cp)]] hr5 (by first | exact wanted_none rfl | exact wanted_zero (hr5.env.same rfl rfl rfl rfl) rfl (by simp) | exact wanted_zero (hr5.env.same rfl rfl rfl rfl) rfl (by simp [*])) rfl (callable 22 Try.func22) (copy_ok w5 _ t (hL.below hr5.keeps.toBelow) (by omega)) ?_
  rintro e6 w6 ⟨v6, rfl, hO6, hb6⟩
  refine ⟨_, rfl, ?_⟩
  have h6 := hr5.ret hb6 49 (.ag (tabC t v6)) rfl _ (hr5.all.below hb6) (by simp) rfl
  have hne : t.L ≠ [] := List.ne_nil_of_mem hXm.1
  obtain ⟨bo, N, cap, u, row0, hPo, rfl, hc0, hc1, hc2, hrep0, hrow0⟩ := hO6.opn (List.length_pos_iff.2 hne)
  refine seg cfg46_ok mixed PanicFree.body 1000 [] [] h6.rebase (by first | trivial | exact HpRep.nil | assumption) (by kernel_rfl) fun sC hsC => ?_
  simp (maxSteps := 10000000) [SX.vc, SX.stop, SX.contS, SX.contB, SX.contW, SX.contR, SX.contD, SX.sxStep, SX.stepPure, SX.stepNew, SX.stepStore, SX.stepKeep, SX.guardIx, SX.evOp, SX.opd, SX.opds, SX.optOpd, SX.look, SX.putS, SX.gobs, SX.AllP, SX.leave, SX.lookC, SX.lookB, SX.lookT, SX.lookN, SX.findK, SX.evBuiltin, SX.ints, SX.foldI, SX.evBin, SX.evInt, SX.evStr, SX.evEq, SX.arith, SX.evLoad, SX.shapeUp, SX.evFieldAddr, SX.evField, SX.evIndexAddr, SX.evIndex, SX.evFill, SX.evBuild, SX.szs, SX.cellsV, SX.evNew, SX.evStore, SX.spliceL, SX.SV.cells, SX.evConv, SX.evSlice, SX.bnd, SX.evNil, SX.evUn, SX.evPick, SX.pickOpd, SX.popTo, SX.cnd, SX.env0, SX.TD.isAgg, SX.TD.isIface, SX.tails, SX.NotAgg, SX.evLookup, SX.evConvH, SX.evPtrEq, SX.isCells, SX.thaw, SX.frz, SX.fixB, SX.rootIx, SX.Froz, SX.frzStep, SX.fork, Go.Value.cells, Go.undef, cfg46, tabC]
  refine ⟨by (unfold SX.Ob; first | trivial | omega | ((try simp only [SX.inK]); (try simp [SX.den, SX.IsU8, SX.AllP, *]); (try omega))), ?_⟩
  intro a7 w7 hr7' _
  have hr7 := h6.unbase hr7'
  have z5 : w.heap.size ≤ w5.heap.size := hr5.keeps.size
  have hbo6 : bo < w6.heap.size := SO.rep_lt hrep0
  have hA6 := h6.all
  have k0 := SO.rep_lt hA6.1.1
  have hA5 := hr5.all
  have k1 := SO.rep_lt hA5.1.1
  have k2 := SO.rep_lt hA5.2.1.1
  have k3 := SO.rep_lt hA5.2.2.1.1
  have hrep7 : SO.rep w7 bo (.arr 0 N row0 4 u (0, 0)) := KeepsTo.same hr7'.keeps hrep0 (by simp [frameAt, mutB]; omega)
  generalize hct : sA = c5 at hr7
  generalize hc10 : c5 + 1 = c10 at hr7
  generalize hc12 : sB = c12 at hr7
  generalize hc14 : sC = c14 at hr7
  have hA7 := hr7.all
  refine post_loop (RRenLoop w t key host epoch ttl X (.slice ad t.L.length cp) c5 c10 c12 c14 bo N cap u) t.L.length ⟨0, row0, rfl, by omega, fun j hj => by rw [hrow0 j hj, if_neg (by omega)], hr7.re (by simp [envTo, SX.look, den]) ⟨⟨hA7.1.1, hA7.1.2.1, by have e := hA7.1.2.2; simp at e ⊢; omega⟩, ⟨hA7.2.1.1, hA7.2.1.2.1, by have e := hA7.2.1.2.2; simp at e ⊢; omega⟩, ⟨hA7.2.2.1.1, hA7.2.2.1.2.1, by have e := hA7.2.2.1.2.2; simp at e ⊢; omega⟩, ⟨by simpa [SO.rep, denL, den] using hA7.2.2.2.1.1, hA7.2.2.2.1.2.1, by simp; omega⟩, ⟨hrep7, fun _ => .inl (Nat.le_trans z5 hPo), by simp⟩, trivial⟩ rfl rfl⟩ ?_
  clear hr hr1 h2 hr3 h4 hr5 h6 hr7' hr7 hA7 hrep7 hA6 hA5 hrep0 hrow0
  rintro m a8 w8 ⟨k, row, rfl, hk, hrow, hr8⟩
  by_cases hlt : k < t.L.length
  · obtain ⟨x, hx⟩ : ∃ x, nth lse0 t.L k = x := ⟨_, rfl⟩
    have hrk : row k = [.v (.int .i64 x.k), .v (.int .i64 x.h), .v (.int .i64 x.e), .v (.int .i64 x.u)] := by rw [hrow k hlt, if_neg (by omega), hx]; rfl
    have hkN : k < N := by omega
    have hstep : ∀ j, j < t.L.length → j ≠ k → (if j < k + 1 then upK key (t.now + ttl) (nth lse0 t.L j) else nth lse0 t.L j) = (if j < k then upK key (t.now + ttl) (nth lse0 t.L j) else nth lse0 t.L j) := fun j _ hjk => by
      by_cases hjl : j < k
      · rw [if_pos (by omega), if_pos hjl]
      · rw [if_neg (by omega), if_neg hjl]
    by_cases hxk : x.k = key
    · have hxX : x = X := by rw [← hX, ← hx]; exact (getK_at hsr hlt (hx ▸ hxk)).symm
      subst hxX
      subst hxk
      obtain ⟨q, hq⟩ : ∃ q, (if x.u < t.now + ttl then t.now + ttl else x.u) = q := ⟨_, rfl⟩
      have hup : upK x.k (t.now + ttl) x = { x with u := q } := by rw [upK, if_pos rfl, maxI, hq]
      refine seg cfg46_ok mixed PanicFree.body 1000 [true, true] [] hr8 (by first | trivial | exact HpRep.nil | assumption) (by kernel_rfl) fun s_ hs_ => ?_
      simp (maxSteps := 10000000) [SX.vc, SX.stop, SX.contS, SX.contB, SX.contW, SX.contR, SX.contD, SX.sxStep, SX.stepPure, SX.stepNew, SX.stepStore, SX.stepKeep, SX.guardIx, SX.evOp, SX.opd, SX.opds, SX.optOpd, SX.look, SX.putS, SX.gobs, SX.AllP, SX.leave, SX.lookC, SX.lookB, SX.lookT, SX.lookN, SX.findK, SX.evBuiltin, SX.ints, SX.foldI, SX.evBin, SX.evInt, SX.evStr, SX.evEq, SX.arith, SX.evLoad, SX.shapeUp, SX.evFieldAddr, SX.evField, SX.evIndexAddr, SX.evIndex, SX.evFill, SX.evBuild, SX.szs, SX.cellsV, SX.evNew, SX.evStore, SX.spliceL, SX.SV.cells, SX.evConv, SX.evSlice, SX.bnd, SX.evNil, SX.evUn, SX.evPick, SX.pickOpd, SX.popTo, SX.cnd, SX.env0, SX.TD.isAgg, SX.TD.isIface, SX.tails, SX.NotAgg, SX.evLookup, SX.evConvH, SX.evPtrEq, SX.isCells, SX.thaw, SX.frz, SX.fixB, SX.rootIx, SX.Froz, SX.frzStep, SX.fork, Go.Value.cells, Go.undef, cfg46, hrk, hq]
      refine ⟨by (unfold SX.Ob; first | trivial | omega | ((try simp only [SX.inK]); (try simp [SX.den, SX.IsU8, SX.AllP, *]); (try omega))), ?_⟩
      intro a9 w9 hr9 _
      exact post_rnd (t.L.length - (k + 1)) (by omega) ⟨k + 1, _, rfl, by omega, fun j hj => (by
        by_cases hjk : j = k
        · subst hjk
          rw [if_pos (by omega), hx, hup]
          simp [setRow, lseC]
        · rw [hstep j hj hjk, ← hrow j hj]
          unfold setRow
          rw [if_neg hjk]), hr9.re (by simp [envTo, SX.look, den]) hr9.all rfl rfl⟩
    · have hup : upK key (t.now + ttl) x = x := by rw [upK, if_neg hxk]
      refine seg cfg46_ok mixed PanicFree.body 1000 [true, false] [] hr8 (by first | trivial | exact HpRep.nil | assumption) (by kernel_rfl) fun s_ hs_ => ?_
      simp (maxSteps := 10000000) [SX.vc, SX.stop, SX.contS, SX.contB, SX.contW, SX.contR, SX.contD, SX.sxStep, SX.stepPure, SX.stepNew, SX.stepStore, SX.stepKeep, SX.guardIx, SX.evOp, SX.opd, SX.opds, SX.optOpd, SX.look, SX.putS, SX.gobs, SX.AllP, SX.leave, SX.lookC, SX.lookB, SX.lookT, SX.lookN, SX.findK, SX.evBuiltin, SX.ints, SX.foldI, SX.evBin, SX.evInt, SX.evStr, SX.evEq, SX.arith, SX.evLoad, SX.shapeUp, SX.evFieldAddr, SX.evField, SX.evIndexAddr, SX.evIndex, SX.evFill, SX.evBuild, SX.szs, SX.cellsV, SX.evNew, SX.evStore, SX.spliceL, SX.SV.cells, SX.evConv, SX.evSlice, SX.bnd, SX.evNil, SX.evUn, SX.evPick, SX.pickOpd, SX.popTo, SX.cnd, SX.env0, SX.TD.isAgg, SX.TD.isIface, SX.tails, SX.NotAgg, SX.evLookup, SX.evConvH, SX.evPtrEq, SX.isCells, SX.thaw, SX.frz, SX.fixB, SX.rootIx, SX.Froz, SX.frzStep, SX.fork, Go.Value.cells, Go.undef, cfg46, hrk, hxk]
      refine ⟨by (unfold SX.Ob; first | trivial | omega | ((try simp only [SX.inK]); (try simp [SX.den, SX.IsU8, SX.AllP, *]); (try omega))), ?_⟩
      intro a9 w9 hr9 _
      exact post_rnd (t.L.length - (k + 1)) (by omega) ⟨k + 1, row, rfl, by omega, fun j hj => (by
        by_cases hjk : j = k
        · subst hjk
          rw [if_pos (by omega), hx, hup, hrk]
          rfl
        · rw [hstep j hj hjk, ← hrow j hj]), hr9.re (by simp [envTo, SX.look, den]) hr9.all rfl rfl⟩
  · obtain rfl : k = t.L.length := by omega
    refine seg cfg46_ok mixed PanicFree.body 1000 [false] [] hr8 (by first | trivial | exact HpRep.nil | assumption) (by kernel_rfl) fun s_ hs_ => ?_
    simp (maxSteps := 10000000) [SX.vc, SX.stop, SX.contS, SX.contB, SX.contW, SX.contR, SX.contD, SX.sxStep, SX.stepPure, SX.stepNew, SX.stepStore, SX.stepKeep, SX.guardIx, SX.evOp, SX.opd, SX.opds, SX.optOpd, SX.look, SX.putS, SX.gobs, SX.AllP, SX.leave, SX.lookC, SX.lookB, SX.lookT, SX.lookN, SX.findK, SX.evBuiltin, SX.ints, SX.foldI, SX.evBin, SX.evInt, SX.evStr, SX.evEq, SX.arith, SX.evLoad, SX.shapeUp, SX.evFieldAddr, SX.evField, SX.evIndexAddr, SX.evIndex, SX.evFill, SX.evBuild, SX.szs, SX.cellsV, SX.evNew, SX.evStore, SX.spliceL, SX.SV.cells, SX.evConv, SX.evSlice, SX.bnd, SX.evNil, SX.evUn, SX.evPick, SX.pickOpd, SX.popTo, SX.cnd, SX.env0, SX.TD.isAgg, SX.TD.isIface, SX.tails, SX.NotAgg, SX.evLookup, SX.evConvH, SX.evPtrEq, SX.isCells, SX.thaw, SX.frz, SX.fixB, SX.rootIx, SX.Froz, SX.frzStep, SX.fork, Go.Value.cells, Go.undef, cfg46]
    refine ⟨by (unfold SX.Ob; first | trivial | omega | ((try simp only [SX.inK]); (try simp [SX.den, SX.IsU8, SX.AllP, *]); (try omega))), ?_⟩
    intro a9 w9 hr9 _
    have hA9 := hr9.all
    refine post_retn (endC2 hr9 rfl rfl rfl tok24 rfl rfl ⟨.slice (some ⟨bo, 0, none⟩) t.L.length cap, by rw [hE, hT]; simp [den, denL, tabC], ?_, hr9.keeps.toBelow⟩).1
    rw [hT]
    refine .inr ⟨by simpa using List.length_pos_iff.2 hne, bo, 0, cap, u, (0, 0), Nat.le_trans z5 hPo, by simp, rep_arr_sub hA9.2.2.2.2.1.1 (by simp; omega) (fun j hj => ?_), by simpa using hc1⟩
    have hj' : j < t.L.length := by simpa using hj
    rw [hrow j hj', if_pos hj', nth_lt hj', nth_lt hj, List.getElem_map]
end Go.Proofs
