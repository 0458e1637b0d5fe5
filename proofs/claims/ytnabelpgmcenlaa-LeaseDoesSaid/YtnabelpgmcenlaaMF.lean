/- Leases: something that is done, as the document says. -/
import Derived.Test.YtnabelpgmcenlaaMB
import Derived.Test.YtnabelpgmcenlaaME
import Derived.Test.YtnabelpgmcenlaaLS
namespace Go.Proofs
set_option linter.unusedVariables false
set_option linter.unusedSimpArgs false
open Go Go.SX Go.RowKit

set_option maxRecDepth 100000 in
set_option maxHeartbeats 16000000 in
/-- model. -/
theorem model_ok {P : Nat → Prop} (w : World) (v : Value) (t : Tab) (o : Opr) (hL : RdL P w v t.L) (hn : t.L.length ≤ 100000) (hl1 : t.last ≤ 2305843009213693952) (hl2 : t.now ≤ 2305843009213693952) : Calls Try.prog 23 (denL [.ag (tabC t v), .ag (oprC o)]).toArray w (BodyR P w t o) := by
  refine enter (F := frame0 w) Try.func23 rfl [.ag (tabC t v), .ag (oprC o)] [] (by simp [Try.f23]) trivial (keeps0 w) fun a hr => ?_
  obtain ⟨ad, cp, rfl⟩ := hL.slice
  by_cases d0 : o.d = 0
  · have hE : bodyE t o = tickE t o.a := if_pos d0
    have hT : bodyT t o = tickT t o.a := if_pos d0
    have hX : bodyX t o = tickO t o.a := if_pos d0
    refine seg cfg23_ok mixed PanicFree.body 1000 [true] [] hr (by first | trivial | exact HpRep.nil | assumption) (by kernel_rfl) fun s_ hs_ => ?_
    simp (maxSteps := 10000000) [SX.vc, SX.stop, SX.contS, SX.contB, SX.contW, SX.contR, SX.contD, SX.sxStep, SX.stepPure, SX.stepNew, SX.stepStore, SX.stepKeep, SX.guardIx, SX.evOp, SX.opd, SX.opds, SX.optOpd, SX.look, SX.putS, SX.gobs, SX.AllP, SX.leave, SX.lookC, SX.lookB, SX.lookT, SX.lookN, SX.findK, SX.evBuiltin, SX.ints, SX.foldI, SX.evBin, SX.evInt, SX.evStr, SX.evEq, SX.arith, SX.evLoad, SX.shapeUp, SX.evFieldAddr, SX.evField, SX.evIndexAddr, SX.evIndex, SX.evFill, SX.evBuild, SX.szs, SX.cellsV, SX.evNew, SX.evStore, SX.spliceL, SX.SV.cells, SX.evConv, SX.evSlice, SX.bnd, SX.evNil, SX.evUn, SX.evPick, SX.pickOpd, SX.popTo, SX.cnd, SX.env0, SX.TD.isAgg, SX.TD.isIface, SX.tails, SX.NotAgg, SX.evLookup, SX.evConvH, SX.evPtrEq, SX.isCells, SX.thaw, SX.frz, SX.fixB, SX.rootIx, SX.Froz, SX.frzStep, SX.fork, Go.Value.cells, Go.undef, cfg23, Try.f23, tabC, oprC, d0]
    refine ⟨by (unfold SX.Ob; first | trivial | omega | ((try simp only [SX.inK]); (try simp [SX.den, SX.IsU8, SX.AllP, *]); (try omega))), ?_⟩
    intro a1 w1 hr1 _
    have z1 : w.heap.size ≤ w1.heap.size := hr1.keeps.size
    refine post_call 44 [.ag [.v (.int .i64 t.last), .v (.int .i64 t.now), .v (.slice ad t.L.length cp)], .v (.int .i64 o.a)] hr1 (by first | exact wanted_none rfl | exact wanted_zero (hr1.env.same rfl rfl rfl rfl) rfl (by simp) | exact wanted_zero (hr1.env.same rfl rfl rfl rfl) rfl (by simp [*])) rfl (callable 44 Try.func44) (rTick_ok w1 _ t o.a (hL.below hr1.keeps.toBelow) (by omega)) ?_
    rintro e2 w2 ⟨v2, v2', rfl, hL2, hO2, hb2⟩
    refine ⟨_, rfl, ?_⟩
    have h2 := hr1.ret hb2 23 (.tu [.ag (tabC (tickT t o.a) v2), .v v2', .v (.int .i64 (tickE t o.a))]) rfl _ (hr1.all.below hb2) (by simp) rfl
    obtain ⟨ad2, cp2, rfl⟩ := hL2.slice
    refine seg cfg23_ok mixed PanicFree.body 1000 [] [] h2.rebase (by first | trivial | exact HpRep.nil | assumption) (by kernel_rfl) fun s_ hs_ => ?_
    simp (maxSteps := 10000000) [SX.vc, SX.stop, SX.contS, SX.contB, SX.contW, SX.contR, SX.contD, SX.sxStep, SX.stepPure, SX.stepNew, SX.stepStore, SX.stepKeep, SX.guardIx, SX.evOp, SX.opd, SX.opds, SX.optOpd, SX.look, SX.putS, SX.gobs, SX.AllP, SX.leave, SX.lookC, SX.lookB, SX.lookT, SX.lookN, SX.findK, SX.evBuiltin, SX.ints, SX.foldI, SX.evBin, SX.evInt, SX.evStr, SX.evEq, SX.arith, SX.evLoad, SX.shapeUp, SX.evFieldAddr, SX.evField, SX.evIndexAddr, SX.evIndex, SX.evFill, SX.evBuild, SX.szs, SX.cellsV, SX.evNew, SX.evStore, SX.spliceL, SX.SV.cells, SX.evConv, SX.evSlice, SX.bnd, SX.evNil, SX.evUn, SX.evPick, SX.pickOpd, SX.popTo, SX.cnd, SX.env0, SX.TD.isAgg, SX.TD.isIface, SX.tails, SX.NotAgg, SX.evLookup, SX.evConvH, SX.evPtrEq, SX.isCells, SX.thaw, SX.frz, SX.fixB, SX.rootIx, SX.Froz, SX.frzStep, SX.fork, Go.Value.cells, Go.undef, cfg23, tabC]
    refine ⟨by (unfold SX.Ob; first | trivial | omega | ((try simp only [SX.inK]); (try simp [SX.den, SX.IsU8, SX.AllP, *]); (try omega))), ?_⟩
    intro a3 w3 hr3' _
    have hr3 := h2.unbase hr3'
    have hL3 := hL2.keep hr3'.keeps (fun x hx h => absurd (mutB_lt hr1.all x hx) (by omega))
    have hO3 := hO2.keep hr3'.keeps (fun x hx h => absurd (mutB_lt hr1.all x hx) (by omega))
    exact post_retn (endCTT hr3 rfl rfl rfl tok24 rfl rfl rfl ⟨.slice ad2 (tickT t o.a).L.length cp2, v2', by rw [hE, hT]; simp [den, denL, tabC], by rw [hT]; exact hL3.mono fun x _ h => .inr (by omega), by rw [hX]; exact hO3.mono fun x _ h => by omega, hr3.keeps.toBelow⟩).1
  by_cases d1 : o.d = 1
  · have hE : bodyE t o = grantE t o.a o.b o.c := by rw [bodyE, if_neg d0, if_pos d1]
    have hT : bodyT t o = grantT t o.a o.b o.c := by rw [bodyT, if_neg d0, if_pos d1]
    have hX : bodyX t o = [grantX t o.a o.b o.c] := by rw [bodyX, if_neg d0, if_pos d1]
    refine seg cfg23_ok mixed PanicFree.body 1000 [false, true] [] hr (by first | trivial | exact HpRep.nil | assumption) (by kernel_rfl) fun s_ hs_ => ?_
    simp (maxSteps := 10000000) [SX.vc, SX.stop, SX.contS, SX.contB, SX.contW, SX.contR, SX.contD, SX.sxStep, SX.stepPure, SX.stepNew, SX.stepStore, SX.stepKeep, SX.guardIx, SX.evOp, SX.opd, SX.opds, SX.optOpd, SX.look, SX.putS, SX.gobs, SX.AllP, SX.leave, SX.lookC, SX.lookB, SX.lookT, SX.lookN, SX.findK, SX.evBuiltin, SX.ints, SX.foldI, SX.evBin, SX.evInt, SX.evStr, SX.evEq, SX.arith, SX.evLoad, SX.shapeUp, SX.evFieldAddr, SX.evField, SX.evIndexAddr, SX.evIndex, SX.evFill, SX.evBuild, SX.szs, SX.cellsV, SX.evNew, SX.evStore, SX.spliceL, SX.SV.cells, SX.evConv, SX.evSlice, SX.bnd, SX.evNil, SX.evUn, SX.evPick, SX.pickOpd, SX.popTo, SX.cnd, SX.env0, SX.TD.isAgg, SX.TD.isIface, SX.tails, SX.NotAgg, SX.evLookup, SX.evConvH, SX.evPtrEq, SX.isCells, SX.thaw, SX.frz, SX.fixB, SX.rootIx, SX.Froz, SX.frzStep, SX.fork, Go.Value.cells, Go.undef, cfg23, Try.f23, tabC, oprC, d0, d1]
    refine ⟨by (unfold SX.Ob; first | trivial | omega | ((try simp only [SX.inK]); (try simp [SX.den, SX.IsU8, SX.AllP, *]); (try omega))), ?_⟩
    intro a1 w1 hr1 _
    have z1 : w.heap.size ≤ w1.heap.size := hr1.keeps.size
    refine post_call 45 [.ag [.v (.int .i64 t.last), .v (.int .i64 t.now), .v (.slice ad t.L.length cp)], .v (.int .i64 o.a), .v (.int .i64 o.b), .v (.int .i64 o.c)] hr1 (by first | exact wanted_none rfl | exact wanted_zero (hr1.env.same rfl rfl rfl rfl) rfl (by simp) | exact wanted_zero (hr1.env.same rfl rfl rfl rfl) rfl (by simp [*])) rfl (callable 45 Try.func45) (rGrant_ok w1 _ t o.a o.b o.c (hL.below hr1.keeps.toBelow) (by omega) (by omega) (by omega)) ?_
    rintro e2 w2 ⟨v2, rfl, hL2, hb2⟩
    refine ⟨_, rfl, ?_⟩
    have h2 := hr1.ret hb2 37 (.tu [.ag (tabC (grantT t o.a o.b o.c) v2), .ag (lseC (grantX t o.a o.b o.c)), .v (.int .i64 (grantE t o.a o.b o.c))]) rfl _ (hr1.all.below hb2) (by simp) rfl
    obtain ⟨ad2, cp2, rfl⟩ := hL2.slice
    refine seg cfg23_ok mixed PanicFree.body 1000 [] [] h2.rebase (by first | trivial | exact HpRep.nil | assumption) (by kernel_rfl) fun s_ hs_ => ?_
    simp (maxSteps := 10000000) [SX.vc, SX.stop, SX.contS, SX.contB, SX.contW, SX.contR, SX.contD, SX.sxStep, SX.stepPure, SX.stepNew, SX.stepStore, SX.stepKeep, SX.guardIx, SX.evOp, SX.opd, SX.opds, SX.optOpd, SX.look, SX.putS, SX.gobs, SX.AllP, SX.leave, SX.lookC, SX.lookB, SX.lookT, SX.lookN, SX.findK, SX.evBuiltin, SX.ints, SX.foldI, SX.evBin, SX.evInt, SX.evStr, SX.evEq, SX.arith, SX.evLoad, SX.shapeUp, SX.evFieldAddr, SX.evField, SX.evIndexAddr, SX.evIndex, SX.evFill, SX.evBuild, SX.szs, SX.cellsV, SX.evNew, SX.evStore, SX.spliceL, SX.SV.cells, SX.evConv, SX.evSlice, SX.bnd, SX.evNil, SX.evUn, SX.evPick, SX.pickOpd, SX.popTo, SX.cnd, SX.env0, SX.TD.isAgg, SX.TD.isIface, SX.tails, SX.NotAgg, SX.evLookup, SX.evConvH, SX.evPtrEq, SX.isCells, SX.thaw, SX.frz, SX.fixB, SX.rootIx, SX.Froz, SX.frzStep, SX.fork, Go.Value.cells, Go.undef, cfg23, tabC, lseC]
    refine ⟨by (unfold SX.Ob; first | trivial | omega | ((try simp only [SX.inK]); (try simp [SX.den, SX.IsU8, SX.AllP, *]); (try omega))), ?_⟩
    intro a3 w3 hr3' ht3'
    refine post_both ?_ ?_
    · refine seg cfg23_ok mixed PanicFree.body 1000 [] [] hr3' (by first | trivial | exact HpRep.nil | assumption) (by kernel_rfl) fun s_ hs_ => ?_
      simp (maxSteps := 10000000) [SX.vc, SX.stop, SX.contS, SX.contB, SX.contW, SX.contR, SX.contD, SX.sxStep, SX.stepPure, SX.stepNew, SX.stepStore, SX.stepKeep, SX.guardIx, SX.evOp, SX.opd, SX.opds, SX.optOpd, SX.look, SX.putS, SX.gobs, SX.AllP, SX.leave, SX.lookC, SX.lookB, SX.lookT, SX.lookN, SX.findK, SX.evBuiltin, SX.ints, SX.foldI, SX.evBin, SX.evInt, SX.evStr, SX.evEq, SX.arith, SX.evLoad, SX.shapeUp, SX.evFieldAddr, SX.evField, SX.evIndexAddr, SX.evIndex, SX.evFill, SX.evBuild, SX.szs, SX.cellsV, SX.evNew, SX.evStore, SX.spliceL, SX.SV.cells, SX.evConv, SX.evSlice, SX.bnd, SX.evNil, SX.evUn, SX.evPick, SX.pickOpd, SX.popTo, SX.cnd, SX.env0, SX.TD.isAgg, SX.TD.isIface, SX.tails, SX.NotAgg, SX.evLookup, SX.evConvH, SX.evPtrEq, SX.isCells, SX.thaw, SX.frz, SX.fixB, SX.rootIx, SX.Froz, SX.frzStep, SX.fork, Go.Value.cells, Go.undef, cfg23]
      refine ⟨by (unfold SX.Ob; first | trivial | omega | ((try simp only [SX.inK]); (try simp [SX.den, SX.IsU8, SX.AllP, *]); (try omega))), ?_⟩
      intro a4 w4 hr4' _
      have hr4 := h2.unbase hr4'
      have hL4 := hL2.keep hr4'.keeps (fun x hx h => absurd (mutB_lt hr1.all x hx) (by omega))
      have hS := (RdS.lit (enc := lseC) (sz := 4) (d := lse0) (x := grantX t o.a o.b o.c) hr4.all.2.2.2.2.2.1.1 (by simp [lseC])).mono (P' := fun x => w.heap.size ≤ x) fun x _ h => by
        rcases hr4.all.2.2.2.2.2.1.2.1 rfl with h' | h'
        · rw [h]; exact h'
        · cases h'
      exact post_retn (endCTT hr4 rfl rfl rfl tok24 rfl rfl rfl ⟨.slice ad2 (grantT t o.a o.b o.c).L.length cp2, _, by rw [hE, hT]; simp [den, denL, tabC]; rfl, by rw [hT]; exact hL4.mono fun x _ h => .inr (by omega), by rw [hX]; exact hS, hr4.keeps.toBelow⟩).1
    · refine seg cfg23_ok mixed PanicFree.body 1000 [] [] hr3' (by first | trivial | exact HpRep.nil | assumption) (by kernel_rfl) fun s_ hs_ => ?_
      simp (maxSteps := 10000000) [SX.vc, SX.stop, SX.contS, SX.contB, SX.contW, SX.contR, SX.contD, SX.sxStep, SX.stepPure, SX.stepNew, SX.stepStore, SX.stepKeep, SX.guardIx, SX.evOp, SX.opd, SX.opds, SX.optOpd, SX.look, SX.putS, SX.gobs, SX.AllP, SX.leave, SX.lookC, SX.lookB, SX.lookT, SX.lookN, SX.findK, SX.evBuiltin, SX.ints, SX.foldI, SX.evBin, SX.evInt, SX.evStr, SX.evEq, SX.arith, SX.evLoad, SX.shapeUp, SX.evFieldAddr, SX.evField, SX.evIndexAddr, SX.evIndex, SX.evFill, SX.evBuild, SX.szs, SX.cellsV, SX.evNew, SX.evStore, SX.spliceL, SX.SV.cells, SX.evConv, SX.evSlice, SX.bnd, SX.evNil, SX.evUn, SX.evPick, SX.pickOpd, SX.popTo, SX.cnd, SX.env0, SX.TD.isAgg, SX.TD.isIface, SX.tails, SX.NotAgg, SX.evLookup, SX.evConvH, SX.evPtrEq, SX.isCells, SX.thaw, SX.frz, SX.fixB, SX.rootIx, SX.Froz, SX.frzStep, SX.fork, Go.Value.cells, Go.undef, cfg23]
      refine ⟨by (unfold SX.Ob; first | trivial | omega | ((try simp only [SX.inK]); (try simp [SX.den, SX.IsU8, SX.AllP, *]); (try omega))), ?_⟩
      intro a4 w4 hr4' _
      have hr4 := h2.unbase hr4'
      have hL4 := hL2.keep hr4'.keeps (fun x hx h => absurd (mutB_lt hr1.all x hx) (by omega))
      have hS := (RdS.lit (enc := lseC) (sz := 4) (d := lse0) (x := grantX t o.a o.b o.c) hr4.all.2.2.2.2.2.1.1 (by simp [lseC])).mono (P' := fun x => w.heap.size ≤ x) fun x _ h => by
        rcases hr4.all.2.2.2.2.2.1.2.1 rfl with h' | h'
        · rw [h]; exact h'
        · cases h'
      exact post_retn (endCTT hr4 rfl rfl rfl tok24 rfl rfl rfl ⟨.slice ad2 (grantT t o.a o.b o.c).L.length cp2, _, by rw [hE, hT]; simp [den, denL, tabC]; rfl, by rw [hT]; exact hL4.mono fun x _ h => .inr (by omega), by rw [hX]; exact hS, hr4.keeps.toBelow⟩).1
  by_cases d2 : o.d = 2
  · have hE : bodyE t o = renE t o.a o.b o.x o.c := by rw [bodyE, if_neg d0, if_neg d1, if_pos d2]
    have hT : bodyT t o = renT t o.a o.b o.x o.c := by rw [bodyT, if_neg d0, if_neg d1, if_pos d2]
    have hX : bodyX t o = [] := by rw [bodyX, if_neg d0, if_neg d1, if_pos d2]
    refine seg cfg23_ok mixed PanicFree.body 1000 [false, false, true] [] hr (by first | trivial | exact HpRep.nil | assumption) (by kernel_rfl) fun s_ hs_ => ?_
    simp (maxSteps := 10000000) [SX.vc, SX.stop, SX.contS, SX.contB, SX.contW, SX.contR, SX.contD, SX.sxStep, SX.stepPure, SX.stepNew, SX.stepStore, SX.stepKeep, SX.guardIx, SX.evOp, SX.opd, SX.opds, SX.optOpd, SX.look, SX.putS, SX.gobs, SX.AllP, SX.leave, SX.lookC, SX.lookB, SX.lookT, SX.lookN, SX.findK, SX.evBuiltin, SX.ints, SX.foldI, SX.evBin, SX.evInt, SX.evStr, SX.evEq, SX.arith, SX.evLoad, SX.shapeUp, SX.evFieldAddr, SX.evField, SX.evIndexAddr, SX.evIndex, SX.evFill, SX.evBuild, SX.szs, SX.cellsV, SX.evNew, SX.evStore, SX.spliceL, SX.SV.cells, SX.evConv, SX.evSlice, SX.bnd, SX.evNil, SX.evUn, SX.evPick, SX.pickOpd, SX.popTo, SX.cnd, SX.env0, SX.TD.isAgg, SX.TD.isIface, SX.tails, SX.NotAgg, SX.evLookup, SX.evConvH, SX.evPtrEq, SX.isCells, SX.thaw, SX.frz, SX.fixB, SX.rootIx, SX.Froz, SX.frzStep, SX.fork, Go.Value.cells, Go.undef, cfg23, Try.f23, tabC, oprC, d0, d1, d2]
    refine ⟨by (unfold SX.Ob; first | trivial | omega | ((try simp only [SX.inK]); (try simp [SX.den, SX.IsU8, SX.AllP, *]); (try omega))), ?_⟩
    intro a1 w1 hr1 _
    have z1 : w.heap.size ≤ w1.heap.size := hr1.keeps.size
    refine post_call 46 [.ag [.v (.int .i64 t.last), .v (.int .i64 t.now), .v (.slice ad t.L.length cp)], .v (.int .i64 o.a), .v (.int .i64 o.b), .v (.int .i64 o.x), .v (.int .i64 o.c)] hr1 (by first | exact wanted_none rfl | exact wanted_zero (hr1.env.same rfl rfl rfl rfl) rfl (by simp) | exact wanted_zero (hr1.env.same rfl rfl rfl rfl) rfl (by simp [*])) rfl (callable 46 Try.func46) (rRenew_ok w1 _ t o.a o.b o.x o.c (hL.below hr1.keeps.toBelow) (by omega) (by omega)) ?_
    rintro e2 w2 ⟨v2, rfl, hL2, hb2⟩
    refine ⟨_, rfl, ?_⟩
    have h2 := hr1.ret hb2 57 (.tu [.ag (tabC (renT t o.a o.b o.x o.c) v2), .v (.int .i64 (renE t o.a o.b o.x o.c))]) rfl _ (hr1.all.below hb2) (by simp) rfl
    obtain ⟨ad2, cp2, rfl⟩ := hL2.slice
    refine seg cfg23_ok mixed PanicFree.body 1000 [] [] h2.rebase (by first | trivial | exact HpRep.nil | assumption) (by kernel_rfl) fun s_ hs_ => ?_
    simp (maxSteps := 10000000) [SX.vc, SX.stop, SX.contS, SX.contB, SX.contW, SX.contR, SX.contD, SX.sxStep, SX.stepPure, SX.stepNew, SX.stepStore, SX.stepKeep, SX.guardIx, SX.evOp, SX.opd, SX.opds, SX.optOpd, SX.look, SX.putS, SX.gobs, SX.AllP, SX.leave, SX.lookC, SX.lookB, SX.lookT, SX.lookN, SX.findK, SX.evBuiltin, SX.ints, SX.foldI, SX.evBin, SX.evInt, SX.evStr, SX.evEq, SX.arith, SX.evLoad, SX.shapeUp, SX.evFieldAddr, SX.evField, SX.evIndexAddr, SX.evIndex, SX.evFill, SX.evBuild, SX.szs, SX.cellsV, SX.evNew, SX.evStore, SX.spliceL, SX.SV.cells, SX.evConv, SX.evSlice, SX.bnd, SX.evNil, SX.evUn, SX.evPick, SX.pickOpd, SX.popTo, SX.cnd, SX.env0, SX.TD.isAgg, SX.TD.isIface, SX.tails, SX.NotAgg, SX.evLookup, SX.evConvH, SX.evPtrEq, SX.isCells, SX.thaw, SX.frz, SX.fixB, SX.rootIx, SX.Froz, SX.frzStep, SX.fork, Go.Value.cells, Go.undef, cfg23, tabC]
    refine ⟨by (unfold SX.Ob; first | trivial | omega | ((try simp only [SX.inK]); (try simp [SX.den, SX.IsU8, SX.AllP, *]); (try omega))), ?_⟩
    intro a3 w3 hr3' _
    have hr3 := h2.unbase hr3'
    have hL3 := hL2.keep hr3'.keeps (fun x hx h => absurd (mutB_lt hr1.all x hx) (by omega))
    exact post_retn (endCTT hr3 rfl rfl rfl tok24 rfl rfl rfl ⟨.slice ad2 (renT t o.a o.b o.x o.c).L.length cp2, .slice none 0 0, by rw [hE, hT]; simp [den, denL, tabC], by rw [hT]; exact hL3.mono fun x _ h => .inr (by omega), by rw [hX]; exact OwS.nil.rd, hr3.keeps.toBelow⟩).1
  by_cases d3 : o.d = 3
  · have hE : bodyE t o = revE t o.a := by rw [bodyE, if_neg d0, if_neg d1, if_neg d2, if_pos d3]
    have hT : bodyT t o = revT t o.a := by rw [bodyT, if_neg d0, if_neg d1, if_neg d2, if_pos d3]
    have hX : bodyX t o = [] := by rw [bodyX, if_neg d0, if_neg d1, if_neg d2, if_pos d3]
    refine seg cfg23_ok mixed PanicFree.body 1000 [false, false, false, true] [] hr (by first | trivial | exact HpRep.nil | assumption) (by kernel_rfl) fun s_ hs_ => ?_
    simp (maxSteps := 10000000) [SX.vc, SX.stop, SX.contS, SX.contB, SX.contW, SX.contR, SX.contD, SX.sxStep, SX.stepPure, SX.stepNew, SX.stepStore, SX.stepKeep, SX.guardIx, SX.evOp, SX.opd, SX.opds, SX.optOpd, SX.look, SX.putS, SX.gobs, SX.AllP, SX.leave, SX.lookC, SX.lookB, SX.lookT, SX.lookN, SX.findK, SX.evBuiltin, SX.ints, SX.foldI, SX.evBin, SX.evInt, SX.evStr, SX.evEq, SX.arith, SX.evLoad, SX.shapeUp, SX.evFieldAddr, SX.evField, SX.evIndexAddr, SX.evIndex, SX.evFill, SX.evBuild, SX.szs, SX.cellsV, SX.evNew, SX.evStore, SX.spliceL, SX.SV.cells, SX.evConv, SX.evSlice, SX.bnd, SX.evNil, SX.evUn, SX.evPick, SX.pickOpd, SX.popTo, SX.cnd, SX.env0, SX.TD.isAgg, SX.TD.isIface, SX.tails, SX.NotAgg, SX.evLookup, SX.evConvH, SX.evPtrEq, SX.isCells, SX.thaw, SX.frz, SX.fixB, SX.rootIx, SX.Froz, SX.frzStep, SX.fork, Go.Value.cells, Go.undef, cfg23, Try.f23, tabC, oprC, d0, d1, d2, d3]
    refine ⟨by (unfold SX.Ob; first | trivial | omega | ((try simp only [SX.inK]); (try simp [SX.den, SX.IsU8, SX.AllP, *]); (try omega))), ?_⟩
    intro a1 w1 hr1 _
    have z1 : w.heap.size ≤ w1.heap.size := hr1.keeps.size
    refine post_call 47 [.ag [.v (.int .i64 t.last), .v (.int .i64 t.now), .v (.slice ad t.L.length cp)], .v (.int .i64 o.a)] hr1 (by first | exact wanted_none rfl | exact wanted_zero (hr1.env.same rfl rfl rfl rfl) rfl (by simp) | exact wanted_zero (hr1.env.same rfl rfl rfl rfl) rfl (by simp [*])) rfl (callable 47 Try.func47) (rRevoke_ok w1 _ t o.a (hL.below hr1.keeps.toBelow) (by omega)) ?_
    rintro e2 w2 ⟨v2, rfl, hL2, hb2⟩
    refine ⟨_, rfl, ?_⟩
    have h2 := hr1.ret hb2 68 (.tu [.ag (tabC (revT t o.a) v2), .v (.int .i64 (revE t o.a))]) rfl _ (hr1.all.below hb2) (by simp) rfl
    obtain ⟨ad2, cp2, rfl⟩ := hL2.slice
    refine seg cfg23_ok mixed PanicFree.body 1000 [] [] h2.rebase (by first | trivial | exact HpRep.nil | assumption) (by kernel_rfl) fun s_ hs_ => ?_
    simp (maxSteps := 10000000) [SX.vc, SX.stop, SX.contS, SX.contB, SX.contW, SX.contR, SX.contD, SX.sxStep, SX.stepPure, SX.stepNew, SX.stepStore, SX.stepKeep, SX.guardIx, SX.evOp, SX.opd, SX.opds, SX.optOpd, SX.look, SX.putS, SX.gobs, SX.AllP, SX.leave, SX.lookC, SX.lookB, SX.lookT, SX.lookN, SX.findK, SX.evBuiltin, SX.ints, SX.foldI, SX.evBin, SX.evInt, SX.evStr, SX.evEq, SX.arith, SX.evLoad, SX.shapeUp, SX.evFieldAddr, SX.evField, SX.evIndexAddr, SX.evIndex, SX.evFill, SX.evBuild, SX.szs, SX.cellsV, SX.evNew, SX.evStore, SX.spliceL, SX.SV.cells, SX.evConv, SX.evSlice, SX.bnd, SX.evNil, SX.evUn, SX.evPick, SX.pickOpd, SX.popTo, SX.cnd, SX.env0, SX.TD.isAgg, SX.TD.isIface, SX.tails, SX.NotAgg, SX.evLookup, SX.evConvH, SX.evPtrEq, SX.isCells, SX.thaw, SX.frz, SX.fixB, SX.rootIx, SX.Froz, SX.frzStep, SX.fork, Go.Value.cells, Go.undef, cfg23, tabC]
    refine ⟨by (unfold SX.Ob; first | trivial | omega | ((try simp only [SX.inK]); (try simp [SX.den, SX.IsU8, SX.AllP, *]); (try omega))), ?_⟩
    intro a3 w3 hr3' _
    have hr3 := h2.unbase hr3'
    have hL3 := hL2.keep hr3'.keeps (fun x hx h => absurd (mutB_lt hr1.all x hx) (by omega))
    exact post_retn (endCTT hr3 rfl rfl rfl tok24 rfl rfl rfl ⟨.slice ad2 (revT t o.a).L.length cp2, .slice none 0 0, by rw [hE, hT]; simp [den, denL, tabC], by rw [hT]; exact hL3.mono fun x _ h => .inr (by omega), by rw [hX]; exact OwS.nil.rd, hr3.keeps.toBelow⟩).1
  have hE : bodyE t o = 0 := by rw [bodyE, if_neg d0, if_neg d1, if_neg d2, if_neg d3]
  have hT : bodyT t o = t := by rw [bodyT, if_neg d0, if_neg d1, if_neg d2, if_neg d3]
  have hX : bodyX t o = if HasT t o.a then [getK t.L o.a] else [] := by rw [bodyX, if_neg d0, if_neg d1, if_neg d2, if_neg d3]
  refine seg cfg23_ok mixed PanicFree.body 1000 [false, false, false, false] [] hr (by first | trivial | exact HpRep.nil | assumption) (by kernel_rfl) fun s_ hs_ => ?_
  simp (maxSteps := 10000000) [SX.vc, SX.stop, SX.contS, SX.contB, SX.contW, SX.contR, SX.contD, SX.sxStep, SX.stepPure, SX.stepNew, SX.stepStore, SX.stepKeep, SX.guardIx, SX.evOp, SX.opd, SX.opds, SX.optOpd, SX.look, SX.putS, SX.gobs, SX.AllP, SX.leave, SX.lookC, SX.lookB, SX.lookT, SX.lookN, SX.findK, SX.evBuiltin, SX.ints, SX.foldI, SX.evBin, SX.evInt, SX.evStr, SX.evEq, SX.arith, SX.evLoad, SX.shapeUp, SX.evFieldAddr, SX.evField, SX.evIndexAddr, SX.evIndex, SX.evFill, SX.evBuild, SX.szs, SX.cellsV, SX.evNew, SX.evStore, SX.spliceL, SX.SV.cells, SX.evConv, SX.evSlice, SX.bnd, SX.evNil, SX.evUn, SX.evPick, SX.pickOpd, SX.popTo, SX.cnd, SX.env0, SX.TD.isAgg, SX.TD.isIface, SX.tails, SX.NotAgg, SX.evLookup, SX.evConvH, SX.evPtrEq, SX.isCells, SX.thaw, SX.frz, SX.fixB, SX.rootIx, SX.Froz, SX.frzStep, SX.fork, Go.Value.cells, Go.undef, cfg23, Try.f23, tabC, oprC, d0, d1, d2, d3]
  refine ⟨by (unfold SX.Ob; first | trivial | omega | ((try simp only [SX.inK]); (try simp [SX.den, SX.IsU8, SX.AllP, *]); (try omega))), ?_⟩
  intro a1 w1 hr1 _
  refine post_call 20 [.ag [.v (.int .i64 t.last), .v (.int .i64 t.now), .v (.slice ad t.L.length cp)], .v (.int .i64 o.a)] hr1 (by first | exact wanted_none rfl | exact wanted_zero (hr1.env.same rfl rfl rfl rfl) rfl (by simp) | exact wanted_zero (hr1.env.same rfl rfl rfl rfl) rfl (by simp [*])) rfl (callable 20 Try.func20) (rHolder_ok w1 _ t o.a (hL.below hr1.keeps.toBelow) (by omega)) ?_
  rintro e2 w2 ⟨rfl, hb2⟩
  refine ⟨_, rfl, ?_⟩
  have h2 := hr1.ret hb2 77 (.tu [.ag (lseC (holdX t o.a)), .v (.bool (decide (HasT t o.a)))]) rfl _ (hr1.all.below hb2) (by simp) rfl
  by_cases hH : HasT t o.a
  rotate_left
  · rw [if_neg hH] at hX
    refine seg cfg23_ok mixed PanicFree.body 1000 [true] [] h2 (by first | trivial | exact HpRep.nil | assumption) (by kernel_rfl) fun s_ hs_ => ?_
    simp (maxSteps := 10000000) [SX.vc, SX.stop, SX.contS, SX.contB, SX.contW, SX.contR, SX.contD, SX.sxStep, SX.stepPure, SX.stepNew, SX.stepStore, SX.stepKeep, SX.guardIx, SX.evOp, SX.opd, SX.opds, SX.optOpd, SX.look, SX.putS, SX.gobs, SX.AllP, SX.leave, SX.lookC, SX.lookB, SX.lookT, SX.lookN, SX.findK, SX.evBuiltin, SX.ints, SX.foldI, SX.evBin, SX.evInt, SX.evStr, SX.evEq, SX.arith, SX.evLoad, SX.shapeUp, SX.evFieldAddr, SX.evField, SX.evIndexAddr, SX.evIndex, SX.evFill, SX.evBuild, SX.szs, SX.cellsV, SX.evNew, SX.evStore, SX.spliceL, SX.SV.cells, SX.evConv, SX.evSlice, SX.bnd, SX.evNil, SX.evUn, SX.evPick, SX.pickOpd, SX.popTo, SX.cnd, SX.env0, SX.TD.isAgg, SX.TD.isIface, SX.tails, SX.NotAgg, SX.evLookup, SX.evConvH, SX.evPtrEq, SX.isCells, SX.thaw, SX.frz, SX.fixB, SX.rootIx, SX.Froz, SX.frzStep, SX.fork, Go.Value.cells, Go.undef, cfg23, hH, lseC]
    refine ⟨by (unfold SX.Ob; first | trivial | omega | ((try simp only [SX.inK]); (try simp [SX.den, SX.IsU8, SX.AllP, *]); (try omega))), ?_⟩
    intro a3 w3 hr3 _
    exact post_retn (endCTT hr3 rfl rfl rfl tok24 rfl rfl rfl ⟨.slice ad t.L.length cp, .slice none 0 0, by rw [hE, hT]; simp [den, denL, tabC], by rw [hT]; exact (hL.below hr3.keeps.toBelow).mono fun x _ h => .inl h, by rw [hX]; exact OwS.nil.rd, hr3.keeps.toBelow⟩).1
  rw [if_pos hH] at hX
  have hho : holdX t o.a = getK t.L o.a := if_pos hH
  refine seg cfg23_ok mixed PanicFree.body 1000 [false] [] h2 (by first | trivial | exact HpRep.nil | assumption) (by kernel_rfl) fun s_ hs_ => ?_
  simp (maxSteps := 10000000) [SX.vc, SX.stop, SX.contS, SX.contB, SX.contW, SX.contR, SX.contD, SX.sxStep, SX.stepPure, SX.stepNew, SX.stepStore, SX.stepKeep, SX.guardIx, SX.evOp, SX.opd, SX.opds, SX.optOpd, SX.look, SX.putS, SX.gobs, SX.AllP, SX.leave, SX.lookC, SX.lookB, SX.lookT, SX.lookN, SX.findK, SX.evBuiltin, SX.ints, SX.foldI, SX.evBin, SX.evInt, SX.evStr, SX.evEq, SX.arith, SX.evLoad, SX.shapeUp, SX.evFieldAddr, SX.evField, SX.evIndexAddr, SX.evIndex, SX.evFill, SX.evBuild, SX.szs, SX.cellsV, SX.evNew, SX.evStore, SX.spliceL, SX.SV.cells, SX.evConv, SX.evSlice, SX.bnd, SX.evNil, SX.evUn, SX.evPick, SX.pickOpd, SX.popTo, SX.cnd, SX.env0, SX.TD.isAgg, SX.TD.isIface, SX.tails, SX.NotAgg, SX.evLookup, SX.evConvH, SX.evPtrEq, SX.isCells, SX.thaw, SX.frz, SX.fixB, SX.rootIx, SX.Froz, SX.frzStep, SX.fork, Go.Value.cells, Go.undef, cfg23, hH, lseC]
  refine ⟨by (unfold SX.Ob; first | trivial | omega | ((try simp only [SX.inK]); (try simp [SX.den, SX.IsU8, SX.AllP, *]); (try omega))), ?_⟩
  intro a3 w3 hr3 ht3
  refine post_both ?_ ?_
  · refine seg cfg23_ok mixed PanicFree.body 1000 [] [] hr3 (by first | trivial | exact HpRep.nil | assumption) (by kernel_rfl) fun s_ hs_ => ?_
    simp (maxSteps := 10000000) [SX.vc, SX.stop, SX.contS, SX.contB, SX.contW, SX.contR, SX.contD, SX.sxStep, SX.stepPure, SX.stepNew, SX.stepStore, SX.stepKeep, SX.guardIx, SX.evOp, SX.opd, SX.opds, SX.optOpd, SX.look, SX.putS, SX.gobs, SX.AllP, SX.leave, SX.lookC, SX.lookB, SX.lookT, SX.lookN, SX.findK, SX.evBuiltin, SX.ints, SX.foldI, SX.evBin, SX.evInt, SX.evStr, SX.evEq, SX.arith, SX.evLoad, SX.shapeUp, SX.evFieldAddr, SX.evField, SX.evIndexAddr, SX.evIndex, SX.evFill, SX.evBuild, SX.szs, SX.cellsV, SX.evNew, SX.evStore, SX.spliceL, SX.SV.cells, SX.evConv, SX.evSlice, SX.bnd, SX.evNil, SX.evUn, SX.evPick, SX.pickOpd, SX.popTo, SX.cnd, SX.env0, SX.TD.isAgg, SX.TD.isIface, SX.tails, SX.NotAgg, SX.evLookup, SX.evConvH, SX.evPtrEq, SX.isCells, SX.thaw, SX.frz, SX.fixB, SX.rootIx, SX.Froz, SX.frzStep, SX.fork, Go.Value.cells, Go.undef, cfg23]
    refine ⟨by (unfold SX.Ob; first | trivial | omega | ((try simp only [SX.inK]); (try simp [SX.den, SX.IsU8, SX.AllP, *]); (try omega))), ?_⟩
    intro a4 w4 hr4 _
    have hS := (RdS.lit (enc := lseC) (sz := 4) (d := lse0) (x := getK t.L o.a) hr4.all.2.2.2.2.1.1 (by simp [lseC, hho])).mono (P' := fun x => w.heap.size ≤ x) fun x _ h => by
      rcases hr4.all.2.2.2.2.1.2.1 rfl with h' | h'
      · rw [h]; exact h'
      · cases h'
    exact post_retn (endCTT hr4 rfl rfl rfl tok24 rfl rfl rfl ⟨.slice ad t.L.length cp, _, by rw [hE, hT]; simp [den, denL, tabC]; rfl, by rw [hT]; exact (hL.below hr4.keeps.toBelow).mono fun x _ h => .inl h, by rw [hX]; exact hS, hr4.keeps.toBelow⟩).1
  · refine seg cfg23_ok mixed PanicFree.body 1000 [] [] hr3 (by first | trivial | exact HpRep.nil | assumption) (by kernel_rfl) fun s_ hs_ => ?_
    simp (maxSteps := 10000000) [SX.vc, SX.stop, SX.contS, SX.contB, SX.contW, SX.contR, SX.contD, SX.sxStep, SX.stepPure, SX.stepNew, SX.stepStore, SX.stepKeep, SX.guardIx, SX.evOp, SX.opd, SX.opds, SX.optOpd, SX.look, SX.putS, SX.gobs, SX.AllP, SX.leave, SX.lookC, SX.lookB, SX.lookT, SX.lookN, SX.findK, SX.evBuiltin, SX.ints, SX.foldI, SX.evBin, SX.evInt, SX.evStr, SX.evEq, SX.arith, SX.evLoad, SX.shapeUp, SX.evFieldAddr, SX.evField, SX.evIndexAddr, SX.evIndex, SX.evFill, SX.evBuild, SX.szs, SX.cellsV, SX.evNew, SX.evStore, SX.spliceL, SX.SV.cells, SX.evConv, SX.evSlice, SX.bnd, SX.evNil, SX.evUn, SX.evPick, SX.pickOpd, SX.popTo, SX.cnd, SX.env0, SX.TD.isAgg, SX.TD.isIface, SX.tails, SX.NotAgg, SX.evLookup, SX.evConvH, SX.evPtrEq, SX.isCells, SX.thaw, SX.frz, SX.fixB, SX.rootIx, SX.Froz, SX.frzStep, SX.fork, Go.Value.cells, Go.undef, cfg23]
    refine ⟨by (unfold SX.Ob; first | trivial | omega | ((try simp only [SX.inK]); (try simp [SX.den, SX.IsU8, SX.AllP, *]); (try omega))), ?_⟩
    intro a4 w4 hr4 _
    have hS := (RdS.lit (enc := lseC) (sz := 4) (d := lse0) (x := getK t.L o.a) hr4.all.2.2.2.2.1.1 (by simp [lseC, hho])).mono (P' := fun x => w.heap.size ≤ x) fun x _ h => by
      rcases hr4.all.2.2.2.2.1.2.1 rfl with h' | h'
      · rw [h]; exact h'
      · cases h'
    exact post_retn (endCTT hr4 rfl rfl rfl tok24 rfl rfl rfl ⟨.slice ad t.L.length cp, _, by rw [hE, hT]; simp [den, denL, tabC]; rfl, by rw [hT]; exact (hL.below hr4.keeps.toBelow).mono fun x _ h => .inl h, by rw [hX]; exact hS, hr4.keeps.toBelow⟩).1
end Go.Proofs
