/- Requests: the document's Check; few. -/
import Derived.Test.YtffooiccklfhlaaNE
namespace Go.Proofs
set_option linter.unusedVariables false
set_option linter.unusedSimpArgs false
set_option linter.unusedSectionVars false
open Go Go.SX Go.RowKit

def RcLoop (w : World) (L : List Sen) (v : Value) (m : Nat) (a : Act) (w' : World) : Prop :=
  ∃ (k : Nat) (p : Int), m = L.length - k ∧ k ≤ L.length ∧ -1 ≤ p ∧ (ChkN (-1) L ↔ ChkN p (L.drop k)) ∧
    RepX (frame0 w) ⟨[(11, 0, .v (.int .i64 k)), (10, 0, .v (.int .i64 L.length)), (9, 0, .v v), (0, 0, .v v), (2, 0, .v (.int .i64 0)), (3, 0, .v (.int .i64 p))], [], 0, 0, 50, [], [], []⟩ a w'
def RcLoop2 (w : World) (L : List Sen) (v : Value) (s : Sen) (k : Nat) (m : Nat) (a : Act) (w' : World) : Prop :=
  ∃ (j : Nat) (c : Int), m = s.S.length - j ∧ j ≤ s.S.length ∧ (ChkS s.below s.S ↔ ChkS c (s.S.drop j)) ∧ 0 ≤ c ∧ c ≤ 1152921504606846977 ∧
    RepX (frame0 w) ⟨[(38, 0, .v (.int .i64 j)), (37, 0, .v (.int .i64 s.S.length)), (36, 0, .v (.slice s.ad s.S.length s.cp)), (6, 0, .v (.int .i64 (c - 1))), (11, 0, .v (.int .i64 k)), (10, 0, .v (.int .i64 L.length)), (9, 0, .v v), (0, 0, .v v), (2, 0, .v (.int .i64 0)), (3, 0, .v (.int .i64 s.frm))], [], 0, 0, 50, [], [], []⟩ a w'

set_option maxRecDepth 100000 in
set_option maxHeartbeats 16000000 in
/-- The document's Check. -/
theorem rcheck_ok {P : Nat → Prop} (w : World) (v : Value) (L : List Sen) (hL : RdD P w v L) (hS : SmallN L) (hn : L.length ≤ 1000000000000000) : Calls Try.prog 10 (denL [.v v]).toArray w (Ret w (.v (.int .i64 (chkN L)))) := by
  obtain ⟨ad, cp, rfl⟩ := hL.1.slice
  refine enter (F := frame0 w) Try.func10 rfl [.v (.slice ad L.length cp)] [] (by simp [Try.f10]) trivial (keeps0 w) fun a hr => ?_
  refine seg cfg10_ok mixed PanicFree.body 1000 [] [] hr (by first | trivial | exact HpRep.nil | assumption) (by kernel_rfl) fun s_ hs_ => ?_
  simp (maxSteps := 10000000) [SX.vc, SX.stop, SX.contS, SX.contB, SX.contW, SX.contR, SX.contD, SX.sxStep, SX.stepPure, SX.stepNew, SX.stepStore, SX.stepKeep, SX.guardIx, SX.evOp, SX.opd, SX.opds, SX.optOpd, SX.look, SX.putS, SX.gobs, SX.AllP, SX.leave, SX.lookC, SX.lookB, SX.lookT, SX.lookN, SX.findK, SX.evBuiltin, SX.ints, SX.foldI, SX.evBin, SX.evInt, SX.evStr, SX.evEq, SX.arith, SX.evLoad, SX.shapeUp, SX.evFieldAddr, SX.evField, SX.evIndexAddr, SX.evIndex, SX.evFill, SX.evBuild, SX.szs, SX.cellsV, SX.evNew, SX.evStore, SX.spliceL, SX.SV.cells, SX.evConv, SX.evSlice, SX.bnd, SX.evNil, SX.evUn, SX.evPick, SX.pickOpd, SX.popTo, SX.cnd, SX.env0, SX.TD.isAgg, SX.TD.isIface, SX.tails, SX.NotAgg, SX.evLookup, SX.evConvH, SX.evPtrEq, SX.isCells, SX.thaw, SX.frz, SX.fixB, SX.rootIx, SX.Froz, SX.frzStep, SX.fork, Go.Value.cells, Go.undef, cfg10, Try.f10]
  refine ⟨by (unfold SX.Ob; first | trivial | omega | ((try simp only [SX.inK]); (try simp [SX.den, SX.IsU8, SX.AllP, *]); (try omega))), ?_⟩
  intro a1 w1 hr1 _
  refine post_loop (RcLoop w L (.slice ad L.length cp)) L.length ⟨0, -1, rfl, by omega, by omega, Iff.rfl, hr1.re (by simp [envTo, SX.look, den]) trivial rfl rfl⟩ ?_
  rintro m a2 w2 ⟨k, p, rfl, hk, hp1, hi, hr2⟩
  by_cases hlt : k < L.length
  · obtain ⟨b, o0, cap, u, fz, hP, hv, hrep⟩ := hL.1.opn hlt
    cases hv
    have hbw := SO.rep_lt hrep
    have hrep2 := SO.rep_same hrep (hr2.keeps.toBelow.block _ hbw)
    obtain ⟨x, hx⟩ : ∃ x, nth sen0 L k = x := ⟨_, rfl⟩
    have hxL : x ∈ L := hx ▸ nth_mem hlt
    rw [drop_nth (d := sen0) hlt, hx, ChkN] at hi
    have hbad : ¬ (OneN p x ∧ ChkS x.below x.S) → chkN L = 1 := fun h => if_neg fun hc => h ⟨(hi.1 hc).1, (hi.1 hc).2.1⟩
    have h2 := (hr2.top 9 (.sl 0 b o0 0 L.length cp 3) rfl (by simp [den])).see [(b, false, .arr o0 L.length (fun j => senC (nth sen0 L j)) 3 u fz)] (HpAll.one hrep2)
    by_cases c1 : x.frm ≤ p
    · refine seg cfg10_ok mixed PanicFree.body 1000 [true, true] [(19, true), (24, true)] h2 (by first | trivial | exact HpRep.nil | assumption) (by kernel_rfl) fun s_ hs_ => ?_
      simp (maxSteps := 10000000) [SX.vc, SX.stop, SX.contS, SX.contB, SX.contW, SX.contR, SX.contD, SX.sxStep, SX.stepPure, SX.stepNew, SX.stepStore, SX.stepKeep, SX.guardIx, SX.evOp, SX.opd, SX.opds, SX.optOpd, SX.look, SX.putS, SX.gobs, SX.AllP, SX.leave, SX.lookC, SX.lookB, SX.lookT, SX.lookN, SX.findK, SX.evBuiltin, SX.ints, SX.foldI, SX.evBin, SX.evInt, SX.evStr, SX.evEq, SX.arith, SX.evLoad, SX.shapeUp, SX.evFieldAddr, SX.evField, SX.evIndexAddr, SX.evIndex, SX.evFill, SX.evBuild, SX.szs, SX.cellsV, SX.evNew, SX.evStore, SX.spliceL, SX.SV.cells, SX.evConv, SX.evSlice, SX.bnd, SX.evNil, SX.evUn, SX.evPick, SX.pickOpd, SX.popTo, SX.cnd, SX.env0, SX.TD.isAgg, SX.TD.isIface, SX.tails, SX.NotAgg, SX.evLookup, SX.evConvH, SX.evPtrEq, SX.isCells, SX.thaw, SX.frz, SX.fixB, SX.rootIx, SX.Froz, SX.frzStep, SX.fork, Go.Value.cells, Go.undef, cfg10, senC, hx, c1]
      refine ⟨by (unfold SX.Ob; first | trivial | omega | ((try simp only [SX.inK]); (try simp [SX.den, SX.IsU8, SX.AllP, *]); (try omega))), ?_⟩
      intro a3 w3 hr3 _
      exact post_retn (end1 hr3 rfl rfl ⟨by rw [hbad fun h => absurd h.1.2.1 (by omega)], hr3.keeps.toBelow⟩).1
    by_cases c2 : x.below < 0
    · refine seg cfg10_ok mixed PanicFree.body 1000 [true, true] [(19, false), (24, true)] h2 (by first | trivial | exact HpRep.nil | assumption) (by kernel_rfl) fun s_ hs_ => ?_
      simp (maxSteps := 10000000) [SX.vc, SX.stop, SX.contS, SX.contB, SX.contW, SX.contR, SX.contD, SX.sxStep, SX.stepPure, SX.stepNew, SX.stepStore, SX.stepKeep, SX.guardIx, SX.evOp, SX.opd, SX.opds, SX.optOpd, SX.look, SX.putS, SX.gobs, SX.AllP, SX.leave, SX.lookC, SX.lookB, SX.lookT, SX.lookN, SX.findK, SX.evBuiltin, SX.ints, SX.foldI, SX.evBin, SX.evInt, SX.evStr, SX.evEq, SX.arith, SX.evLoad, SX.shapeUp, SX.evFieldAddr, SX.evField, SX.evIndexAddr, SX.evIndex, SX.evFill, SX.evBuild, SX.szs, SX.cellsV, SX.evNew, SX.evStore, SX.spliceL, SX.SV.cells, SX.evConv, SX.evSlice, SX.bnd, SX.evNil, SX.evUn, SX.evPick, SX.pickOpd, SX.popTo, SX.cnd, SX.env0, SX.TD.isAgg, SX.TD.isIface, SX.tails, SX.NotAgg, SX.evLookup, SX.evConvH, SX.evPtrEq, SX.isCells, SX.thaw, SX.frz, SX.fixB, SX.rootIx, SX.Froz, SX.frzStep, SX.fork, Go.Value.cells, Go.undef, cfg10, senC, hx, c1, c2]
      refine ⟨by (unfold SX.Ob; first | trivial | omega | ((try simp only [SX.inK]); (try simp [SX.den, SX.IsU8, SX.AllP, *]); (try omega))), ?_⟩
      intro a3 w3 hr3 _
      exact post_retn (end1 hr3 rfl rfl ⟨by rw [hbad fun h => absurd h.1.2.2.1 (by omega)], hr3.keeps.toBelow⟩).1
    by_cases c3 : x.S.length ≤ 8
    rotate_left
    · have c3' : (8 : Int) < (x.S.length : Int) := by omega
      refine seg cfg10_ok mixed PanicFree.body 1000 [true, true] [(19, false), (24, false)] h2 (by first | trivial | exact HpRep.nil | assumption) (by kernel_rfl) fun s_ hs_ => ?_
      simp (maxSteps := 10000000) [SX.vc, SX.stop, SX.contS, SX.contB, SX.contW, SX.contR, SX.contD, SX.sxStep, SX.stepPure, SX.stepNew, SX.stepStore, SX.stepKeep, SX.guardIx, SX.evOp, SX.opd, SX.opds, SX.optOpd, SX.look, SX.putS, SX.gobs, SX.AllP, SX.leave, SX.lookC, SX.lookB, SX.lookT, SX.lookN, SX.findK, SX.evBuiltin, SX.ints, SX.foldI, SX.evBin, SX.evInt, SX.evStr, SX.evEq, SX.arith, SX.evLoad, SX.shapeUp, SX.evFieldAddr, SX.evField, SX.evIndexAddr, SX.evIndex, SX.evFill, SX.evBuild, SX.szs, SX.cellsV, SX.evNew, SX.evStore, SX.spliceL, SX.SV.cells, SX.evConv, SX.evSlice, SX.bnd, SX.evNil, SX.evUn, SX.evPick, SX.pickOpd, SX.popTo, SX.cnd, SX.env0, SX.TD.isAgg, SX.TD.isIface, SX.tails, SX.NotAgg, SX.evLookup, SX.evConvH, SX.evPtrEq, SX.isCells, SX.thaw, SX.frz, SX.fixB, SX.rootIx, SX.Froz, SX.frzStep, SX.fork, Go.Value.cells, Go.undef, cfg10, senC, hx, c1, c2, c3']
      refine ⟨by (unfold SX.Ob; first | trivial | omega | ((try simp only [SX.inK]); (try simp [SX.den, SX.IsU8, SX.AllP, *]); (try omega))), ?_⟩
      intro a3 w3 hr3 _
      exact post_retn (end1 hr3 rfl rfl ⟨by rw [hbad fun h => c3 h.1.2.2.2], hr3.keeps.toBelow⟩).1
    have c3' : ¬ (8 : Int) < (x.S.length : Int) := by omega
    have hOne : OneN p x := ⟨by omega, by omega, by omega, c3⟩
    have hxb := (hS x hxL).1
    refine seg cfg10_ok mixed PanicFree.body 1000 [true, false] [(19, false), (24, false)] h2 (by first | trivial | exact HpRep.nil | assumption) (by kernel_rfl) fun s_ hs_ => ?_
    simp (maxSteps := 10000000) [SX.vc, SX.stop, SX.contS, SX.contB, SX.contW, SX.contR, SX.contD, SX.sxStep, SX.stepPure, SX.stepNew, SX.stepStore, SX.stepKeep, SX.guardIx, SX.evOp, SX.opd, SX.opds, SX.optOpd, SX.look, SX.putS, SX.gobs, SX.AllP, SX.leave, SX.lookC, SX.lookB, SX.lookT, SX.lookN, SX.findK, SX.evBuiltin, SX.ints, SX.foldI, SX.evBin, SX.evInt, SX.evStr, SX.evEq, SX.arith, SX.evLoad, SX.shapeUp, SX.evFieldAddr, SX.evField, SX.evIndexAddr, SX.evIndex, SX.evFill, SX.evBuild, SX.szs, SX.cellsV, SX.evNew, SX.evStore, SX.spliceL, SX.SV.cells, SX.evConv, SX.evSlice, SX.bnd, SX.evNil, SX.evUn, SX.evPick, SX.pickOpd, SX.popTo, SX.cnd, SX.env0, SX.TD.isAgg, SX.TD.isIface, SX.tails, SX.NotAgg, SX.evLookup, SX.evConvH, SX.evPtrEq, SX.isCells, SX.thaw, SX.frz, SX.fixB, SX.rootIx, SX.Froz, SX.frzStep, SX.fork, Go.Value.cells, Go.undef, cfg10, senC, hx, c1, c2, c3']
    refine ⟨by (unfold SX.Ob; first | trivial | omega | ((try simp only [SX.inK]); (try simp [SX.den, SX.IsU8, SX.AllP, *]); (try omega))), ?_⟩
    intro a3 w3 hr3 _
    refine post_loop (RcLoop2 w L (.slice (some ⟨b, o0, none⟩) L.length cp) x k) x.S.length ⟨0, x.below, rfl, by omega, Iff.rfl, by omega, (hS x hxL).1, hr3.re (by simp [envTo, SX.look, den]) trivial rfl rfl⟩ ?_
    rintro m a4 w4 ⟨j, c, rfl, hj, hi2, hc0, hc1, hr4⟩
    by_cases hlt2 : j < x.S.length
    · obtain ⟨b2, o2, cap2, u2, fz2, hP2, hv2, hrep2'⟩ := ((hL.2 x hxL).below hr4.keeps.toBelow).opn hlt2
      obtain ⟨z, hz⟩ : ∃ z, nth sad0 x.S j = z := ⟨_, rfl⟩
      have hzS : z.id ≤ 1152921504606846976 := (hS x hxL).2 z (hz ▸ nth_mem hlt2)
      rw [drop_nth (d := sad0) hlt2, hz, ChkS] at hi2
      have h4 := (hr4.top 36 (.sl 0 b2 o2 0 x.S.length cap2 7) rfl (by simp [den, hv2])).see [(b2, false, .arr o2 x.S.length (fun j => sadC (nth sad0 x.S j)) 7 u2 fz2)] (HpAll.one hrep2')
      by_cases d1 : z.id ≤ c - 1
      · refine seg cfg10_ok mixed PanicFree.body 1000 [true, true] [] h4 (by first | trivial | exact HpRep.nil | assumption) (by kernel_rfl) fun s_ hs_ => ?_
        simp (maxSteps := 10000000) [SX.vc, SX.stop, SX.contS, SX.contB, SX.contW, SX.contR, SX.contD, SX.sxStep, SX.stepPure, SX.stepNew, SX.stepStore, SX.stepKeep, SX.guardIx, SX.evOp, SX.opd, SX.opds, SX.optOpd, SX.look, SX.putS, SX.gobs, SX.AllP, SX.leave, SX.lookC, SX.lookB, SX.lookT, SX.lookN, SX.findK, SX.evBuiltin, SX.ints, SX.foldI, SX.evBin, SX.evInt, SX.evStr, SX.evEq, SX.arith, SX.evLoad, SX.shapeUp, SX.evFieldAddr, SX.evField, SX.evIndexAddr, SX.evIndex, SX.evFill, SX.evBuild, SX.szs, SX.cellsV, SX.evNew, SX.evStore, SX.spliceL, SX.SV.cells, SX.evConv, SX.evSlice, SX.bnd, SX.evNil, SX.evUn, SX.evPick, SX.pickOpd, SX.popTo, SX.cnd, SX.env0, SX.TD.isAgg, SX.TD.isIface, SX.tails, SX.NotAgg, SX.evLookup, SX.evConvH, SX.evPtrEq, SX.isCells, SX.thaw, SX.frz, SX.fixB, SX.rootIx, SX.Froz, SX.frzStep, SX.fork, Go.Value.cells, Go.undef, cfg10, sadC, hz, d1]
        refine ⟨by (unfold SX.Ob; first | trivial | omega | ((try simp only [SX.inK]); (try simp [SX.den, SX.IsU8, SX.AllP, *]); (try omega))), ?_⟩
        intro a5 w5 hr5 _
        exact post_retn (end1 hr5 rfl rfl ⟨by rw [hbad fun h => absurd (hi2.1 h.2).1 (by omega)], hr5.keeps.toBelow⟩).1
      · refine seg cfg10_ok mixed PanicFree.body 1000 [true, false] [] h4 (by first | trivial | exact HpRep.nil | assumption) (by kernel_rfl) fun s_ hs_ => ?_
        simp (maxSteps := 10000000) [SX.vc, SX.stop, SX.contS, SX.contB, SX.contW, SX.contR, SX.contD, SX.sxStep, SX.stepPure, SX.stepNew, SX.stepStore, SX.stepKeep, SX.guardIx, SX.evOp, SX.opd, SX.opds, SX.optOpd, SX.look, SX.putS, SX.gobs, SX.AllP, SX.leave, SX.lookC, SX.lookB, SX.lookT, SX.lookN, SX.findK, SX.evBuiltin, SX.ints, SX.foldI, SX.evBin, SX.evInt, SX.evStr, SX.evEq, SX.arith, SX.evLoad, SX.shapeUp, SX.evFieldAddr, SX.evField, SX.evIndexAddr, SX.evIndex, SX.evFill, SX.evBuild, SX.szs, SX.cellsV, SX.evNew, SX.evStore, SX.spliceL, SX.SV.cells, SX.evConv, SX.evSlice, SX.bnd, SX.evNil, SX.evUn, SX.evPick, SX.pickOpd, SX.popTo, SX.cnd, SX.env0, SX.TD.isAgg, SX.TD.isIface, SX.tails, SX.NotAgg, SX.evLookup, SX.evConvH, SX.evPtrEq, SX.isCells, SX.thaw, SX.frz, SX.fixB, SX.rootIx, SX.Froz, SX.frzStep, SX.fork, Go.Value.cells, Go.undef, cfg10, sadC, hz, d1]
        refine ⟨by (unfold SX.Ob; first | trivial | omega | ((try simp only [SX.inK]); (try simp [SX.den, SX.IsU8, SX.AllP, *]); (try omega))), ?_⟩
        intro a5 w5 hr5 _
        exact post_rnd (x.S.length - (j + 1)) (by omega) ⟨j + 1, z.id + 1, rfl, hlt2, hi2.trans ⟨fun h => h.2, fun h => ⟨by omega, h⟩⟩, by omega, by omega, hr5.re (by simp [envTo, SX.look, den, hv2]) trivial rfl rfl⟩
    · obtain rfl : j = x.S.length := by omega
      simp only [List.drop_length, ChkS, iff_true] at hi2
      refine seg cfg10_ok mixed PanicFree.body 1000 [false] [] hr4 (by first | trivial | exact HpRep.nil | assumption) (by kernel_rfl) fun s_ hs_ => ?_
      simp (maxSteps := 10000000) [SX.vc, SX.stop, SX.contS, SX.contB, SX.contW, SX.contR, SX.contD, SX.sxStep, SX.stepPure, SX.stepNew, SX.stepStore, SX.stepKeep, SX.guardIx, SX.evOp, SX.opd, SX.opds, SX.optOpd, SX.look, SX.putS, SX.gobs, SX.AllP, SX.leave, SX.lookC, SX.lookB, SX.lookT, SX.lookN, SX.findK, SX.evBuiltin, SX.ints, SX.foldI, SX.evBin, SX.evInt, SX.evStr, SX.evEq, SX.arith, SX.evLoad, SX.shapeUp, SX.evFieldAddr, SX.evField, SX.evIndexAddr, SX.evIndex, SX.evFill, SX.evBuild, SX.szs, SX.cellsV, SX.evNew, SX.evStore, SX.spliceL, SX.SV.cells, SX.evConv, SX.evSlice, SX.bnd, SX.evNil, SX.evUn, SX.evPick, SX.pickOpd, SX.popTo, SX.cnd, SX.env0, SX.TD.isAgg, SX.TD.isIface, SX.tails, SX.NotAgg, SX.evLookup, SX.evConvH, SX.evPtrEq, SX.isCells, SX.thaw, SX.frz, SX.fixB, SX.rootIx, SX.Froz, SX.frzStep, SX.fork, Go.Value.cells, Go.undef, cfg10]
      refine ⟨by (unfold SX.Ob; first | trivial | omega | ((try simp only [SX.inK]); (try simp [SX.den, SX.IsU8, SX.AllP, *]); (try omega))), ?_⟩
      intro a5 w5 hr5 _
      exact post_rnd (L.length - (k + 1)) (by omega) ⟨k + 1, x.frm, rfl, hlt, by have := hOne.1; omega, hi.trans ⟨fun h => h.2.2, fun h => ⟨hOne, hi2, h⟩⟩, hr5.re (by simp [envTo, SX.look, den]) trivial rfl rfl⟩
  · obtain rfl : k = L.length := by omega
    simp only [List.drop_length, ChkN, iff_true] at hi
    have hc : chkN L = 0 := if_pos hi
    refine seg cfg10_ok mixed PanicFree.body 1000 [false] [] hr2 (by first | trivial | exact HpRep.nil | assumption) (by kernel_rfl) fun s_ hs_ => ?_
    simp (maxSteps := 10000000) [SX.vc, SX.stop, SX.contS, SX.contB, SX.contW, SX.contR, SX.contD, SX.sxStep, SX.stepPure, SX.stepNew, SX.stepStore, SX.stepKeep, SX.guardIx, SX.evOp, SX.opd, SX.opds, SX.optOpd, SX.look, SX.putS, SX.gobs, SX.AllP, SX.leave, SX.lookC, SX.lookB, SX.lookT, SX.lookN, SX.findK, SX.evBuiltin, SX.ints, SX.foldI, SX.evBin, SX.evInt, SX.evStr, SX.evEq, SX.arith, SX.evLoad, SX.shapeUp, SX.evFieldAddr, SX.evField, SX.evIndexAddr, SX.evIndex, SX.evFill, SX.evBuild, SX.szs, SX.cellsV, SX.evNew, SX.evStore, SX.spliceL, SX.SV.cells, SX.evConv, SX.evSlice, SX.bnd, SX.evNil, SX.evUn, SX.evPick, SX.pickOpd, SX.popTo, SX.cnd, SX.env0, SX.TD.isAgg, SX.TD.isIface, SX.tails, SX.NotAgg, SX.evLookup, SX.evConvH, SX.evPtrEq, SX.isCells, SX.thaw, SX.frz, SX.fixB, SX.rootIx, SX.Froz, SX.frzStep, SX.fork, Go.Value.cells, Go.undef, cfg10]
    refine ⟨by (unfold SX.Ob; first | trivial | omega | ((try simp only [SX.inK]); (try simp [SX.den, SX.IsU8, SX.AllP, *]); (try omega))), ?_⟩
    intro a3 w3 hr3 _
    exact post_retn (end1 hr3 rfl rfl ⟨by rw [hc], hr3.keeps.toBelow⟩).1

/-- Lists small enough to be played. -/
def FewS (S : List Sad) : Prop := ∀ x ∈ S, x.id ≤ 1152921504606846976 ∧ x.m.n1 + x.m.n2 ≤ 1000
def FewN (L : List Sen) : Prop := (∀ s ∈ L, s.S.length ≤ 20 ∧ s.below ≤ 1152921504606846976 ∧ FewS s.S) ∧ L.length ≤ 100
instance (S : List Sad) : Decidable (FewS S) := by unfold FewS; infer_instance
instance (L : List Sen) : Decidable (FewN L) := by unfold FewN; infer_instance
def FwLoop (w : World) (L : List Sen) (v : Value) (m : Nat) (a : Act) (w' : World) : Prop :=
  ∃ k : Nat, m = L.length - k ∧ k ≤ L.length ∧ (∀ j, j < k → (nth sen0 L j).S.length ≤ 20 ∧ (nth sen0 L j).below ≤ 1152921504606846976 ∧ FewS (nth sen0 L j).S) ∧
    RepX (frame0 w) ⟨[(9, 0, .v (.int .i64 k)), (8, 0, .v (.int .i64 L.length)), (7, 0, .v v), (0, 0, .v v), (2, 0, .v (.bool false))], [], 0, 0, 49, [], [], []⟩ a w'
def FwLoop2 (w : World) (L : List Sen) (v : Value) (s : Sen) (k : Nat) (m : Nat) (a : Act) (w' : World) : Prop :=
  ∃ j : Nat, m = s.S.length - j ∧ j ≤ s.S.length ∧ (∀ i, i < j → (nth sad0 s.S i).id ≤ 1152921504606846976 ∧ (nth sad0 s.S i).m.n1 + (nth sad0 s.S i).m.n2 ≤ 1000) ∧
    RepX (frame0 w) ⟨[(25, 0, .v (.int .i64 j)), (24, 0, .v (.int .i64 s.S.length)), (23, 0, .v (.slice s.ad s.S.length s.cp)), (9, 0, .v (.int .i64 k)), (8, 0, .v (.int .i64 L.length)), (7, 0, .v v), (0, 0, .v v), (2, 0, .v (.bool false))], [], 0, 0, 49, [], [], []⟩ a w'

set_option maxRecDepth 100000 in
set_option maxHeartbeats 16000000 in
/-- few. -/
theorem few_ok {P : Nat → Prop} (w : World) (v : Value) (L : List Sen) (hL : RdD P w v L) (hn : L.length ≤ 1000000000000000) (hb : ∀ s ∈ L, s.S.length ≤ 1000000000000000 ∧ ∀ x ∈ s.S, x.m.n1 ≤ 1000000000000000 ∧ x.m.n2 ≤ 1000000000000000) : Calls Try.prog 11 (denL [.v v]).toArray w (Ret w (.v (.bool (decide (FewN L))))) := by
  obtain ⟨ad, cp, rfl⟩ := hL.1.slice
  refine enter (F := frame0 w) Try.func11 rfl [.v (.slice ad L.length cp)] [] (by simp [Try.f11]) trivial (keeps0 w) fun a hr => ?_
  refine seg cfg11_ok mixed PanicFree.body 1000 [] [] hr (by first | trivial | exact HpRep.nil | assumption) (by kernel_rfl) fun s_ hs_ => ?_
  simp (maxSteps := 10000000) [SX.vc, SX.stop, SX.contS, SX.contB, SX.contW, SX.contR, SX.contD, SX.sxStep, SX.stepPure, SX.stepNew, SX.stepStore, SX.stepKeep, SX.guardIx, SX.evOp, SX.opd, SX.opds, SX.optOpd, SX.look, SX.putS, SX.gobs, SX.AllP, SX.leave, SX.lookC, SX.lookB, SX.lookT, SX.lookN, SX.findK, SX.evBuiltin, SX.ints, SX.foldI, SX.evBin, SX.evInt, SX.evStr, SX.evEq, SX.arith, SX.evLoad, SX.shapeUp, SX.evFieldAddr, SX.evField, SX.evIndexAddr, SX.evIndex, SX.evFill, SX.evBuild, SX.szs, SX.cellsV, SX.evNew, SX.evStore, SX.spliceL, SX.SV.cells, SX.evConv, SX.evSlice, SX.bnd, SX.evNil, SX.evUn, SX.evPick, SX.pickOpd, SX.popTo, SX.cnd, SX.env0, SX.TD.isAgg, SX.TD.isIface, SX.tails, SX.NotAgg, SX.evLookup, SX.evConvH, SX.evPtrEq, SX.isCells, SX.thaw, SX.frz, SX.fixB, SX.rootIx, SX.Froz, SX.frzStep, SX.fork, Go.Value.cells, Go.undef, cfg11, Try.f11]
  refine ⟨by (unfold SX.Ob; first | trivial | omega | ((try simp only [SX.inK]); (try simp [SX.den, SX.IsU8, SX.AllP, *]); (try omega))), ?_⟩
  intro a1 w1 hr1 _
  refine post_loop (FwLoop w L (.slice ad L.length cp)) L.length ⟨0, rfl, by omega, by simp, hr1.re (by simp [envTo, SX.look, den]) trivial rfl rfl⟩ ?_
  rintro m a2 w2 ⟨k, rfl, hk, hi, hr2⟩
  by_cases hlt : k < L.length
  · obtain ⟨b, o0, cap, u, fz, hP, hv, hrep⟩ := hL.1.opn hlt
    cases hv
    have hbw := SO.rep_lt hrep
    have hrep2 := SO.rep_same hrep (hr2.keeps.toBelow.block _ hbw)
    obtain ⟨x, hx⟩ : ∃ x, nth sen0 L k = x := ⟨_, rfl⟩
    have hxL : x ∈ L := hx ▸ nth_mem hlt
    have hbx := hb x hxL
    have hbad : ¬ (x.S.length ≤ 20 ∧ x.below ≤ 1152921504606846976 ∧ FewS x.S) → ¬ FewN L := fun h hf => h (hf.1 x hxL)
    have h2 := (hr2.top 7 (.sl 0 b o0 0 L.length cp 3) rfl (by simp [den])).see [(b, false, .arr o0 L.length (fun j => senC (nth sen0 L j)) 3 u fz)] (HpAll.one hrep2)
    by_cases c1 : x.S.length ≤ 20
    rotate_left
    · have c1' : (20 : Int) < (x.S.length : Int) := by omega
      refine seg cfg11_ok mixed PanicFree.body 1000 [true, true] [(17, true)] h2 (by first | trivial | exact HpRep.nil | assumption) (by kernel_rfl) fun s_ hs_ => ?_
      simp (maxSteps := 10000000) [SX.vc, SX.stop, SX.contS, SX.contB, SX.contW, SX.contR, SX.contD, SX.sxStep, SX.stepPure, SX.stepNew, SX.stepStore, SX.stepKeep, SX.guardIx, SX.evOp, SX.opd, SX.opds, SX.optOpd, SX.look, SX.putS, SX.gobs, SX.AllP, SX.leave, SX.lookC, SX.lookB, SX.lookT, SX.lookN, SX.findK, SX.evBuiltin, SX.ints, SX.foldI, SX.evBin, SX.evInt, SX.evStr, SX.evEq, SX.arith, SX.evLoad, SX.shapeUp, SX.evFieldAddr, SX.evField, SX.evIndexAddr, SX.evIndex, SX.evFill, SX.evBuild, SX.szs, SX.cellsV, SX.evNew, SX.evStore, SX.spliceL, SX.SV.cells, SX.evConv, SX.evSlice, SX.bnd, SX.evNil, SX.evUn, SX.evPick, SX.pickOpd, SX.popTo, SX.cnd, SX.env0, SX.TD.isAgg, SX.TD.isIface, SX.tails, SX.NotAgg, SX.evLookup, SX.evConvH, SX.evPtrEq, SX.isCells, SX.thaw, SX.frz, SX.fixB, SX.rootIx, SX.Froz, SX.frzStep, SX.fork, Go.Value.cells, Go.undef, cfg11, senC, hx, c1']
      refine ⟨by (unfold SX.Ob; first | trivial | omega | ((try simp only [SX.inK]); (try simp [SX.den, SX.IsU8, SX.AllP, *]); (try omega))), ?_⟩
      intro a3 w3 hr3 _
      exact post_retn (end1 hr3 rfl rfl ⟨by rw [decide_eq_false (hbad fun h => c1 h.1)], hr3.keeps.toBelow⟩).1
    have c1' : ¬ (20 : Int) < (x.S.length : Int) := by omega
    by_cases c2 : 1152921504606846976 < x.below
    · refine seg cfg11_ok mixed PanicFree.body 1000 [true, true] [(17, false)] h2 (by first | trivial | exact HpRep.nil | assumption) (by kernel_rfl) fun s_ hs_ => ?_
      simp (maxSteps := 10000000) [SX.vc, SX.stop, SX.contS, SX.contB, SX.contW, SX.contR, SX.contD, SX.sxStep, SX.stepPure, SX.stepNew, SX.stepStore, SX.stepKeep, SX.guardIx, SX.evOp, SX.opd, SX.opds, SX.optOpd, SX.look, SX.putS, SX.gobs, SX.AllP, SX.leave, SX.lookC, SX.lookB, SX.lookT, SX.lookN, SX.findK, SX.evBuiltin, SX.ints, SX.foldI, SX.evBin, SX.evInt, SX.evStr, SX.evEq, SX.arith, SX.evLoad, SX.shapeUp, SX.evFieldAddr, SX.evField, SX.evIndexAddr, SX.evIndex, SX.evFill, SX.evBuild, SX.szs, SX.cellsV, SX.evNew, SX.evStore, SX.spliceL, SX.SV.cells, SX.evConv, SX.evSlice, SX.bnd, SX.evNil, SX.evUn, SX.evPick, SX.pickOpd, SX.popTo, SX.cnd, SX.env0, SX.TD.isAgg, SX.TD.isIface, SX.tails, SX.NotAgg, SX.evLookup, SX.evConvH, SX.evPtrEq, SX.isCells, SX.thaw, SX.frz, SX.fixB, SX.rootIx, SX.Froz, SX.frzStep, SX.fork, Go.Value.cells, Go.undef, cfg11, senC, hx, c1', c2]
      refine ⟨by (unfold SX.Ob; first | trivial | omega | ((try simp only [SX.inK]); (try simp [SX.den, SX.IsU8, SX.AllP, *]); (try omega))), ?_⟩
      intro a3 w3 hr3 _
      exact post_retn (end1 hr3 rfl rfl ⟨by rw [decide_eq_false (hbad fun h => absurd h.2.1 (by omega))], hr3.keeps.toBelow⟩).1
    refine seg cfg11_ok mixed PanicFree.body 1000 [true, false] [(17, false)] h2 (by first | trivial | exact HpRep.nil | assumption) (by kernel_rfl) fun s_ hs_ => ?_
    simp (maxSteps := 10000000) [SX.vc, SX.stop, SX.contS, SX.contB, SX.contW, SX.contR, SX.contD, SX.sxStep, SX.stepPure, SX.stepNew, SX.stepStore, SX.stepKeep, SX.guardIx, SX.evOp, SX.opd, SX.opds, SX.optOpd, SX.look, SX.putS, SX.gobs, SX.AllP, SX.leave, SX.lookC, SX.lookB, SX.lookT, SX.lookN, SX.findK, SX.evBuiltin, SX.ints, SX.foldI, SX.evBin, SX.evInt, SX.evStr, SX.evEq, SX.arith, SX.evLoad, SX.shapeUp, SX.evFieldAddr, SX.evField, SX.evIndexAddr, SX.evIndex, SX.evFill, SX.evBuild, SX.szs, SX.cellsV, SX.evNew, SX.evStore, SX.spliceL, SX.SV.cells, SX.evConv, SX.evSlice, SX.bnd, SX.evNil, SX.evUn, SX.evPick, SX.pickOpd, SX.popTo, SX.cnd, SX.env0, SX.TD.isAgg, SX.TD.isIface, SX.tails, SX.NotAgg, SX.evLookup, SX.evConvH, SX.evPtrEq, SX.isCells, SX.thaw, SX.frz, SX.fixB, SX.rootIx, SX.Froz, SX.frzStep, SX.fork, Go.Value.cells, Go.undef, cfg11, senC, hx, c1', c2]
    refine ⟨by (unfold SX.Ob; first | trivial | omega | ((try simp only [SX.inK]); (try simp [SX.den, SX.IsU8, SX.AllP, *]); (try omega))), ?_⟩
    intro a3 w3 hr3 _
    refine post_loop (FwLoop2 w L (.slice (some ⟨b, o0, none⟩) L.length cp) x k) x.S.length ⟨0, rfl, by omega, by simp, hr3.re (by simp [envTo, SX.look, den]) trivial rfl rfl⟩ ?_
    rintro m a4 w4 ⟨j, rfl, hj, hi2, hr4⟩
    by_cases hlt2 : j < x.S.length
    · obtain ⟨b2, o2, cap2, u2, fz2, hP2, hv2, hrep2'⟩ := ((hL.2 x hxL).below hr4.keeps.toBelow).opn hlt2
      obtain ⟨z, hz⟩ : ∃ z, nth sad0 x.S j = z := ⟨_, rfl⟩
      have hzS : z ∈ x.S := hz ▸ nth_mem hlt2
      have hbz := hbx.2 z hzS
      have h4 := (hr4.top 23 (.sl 0 b2 o2 0 x.S.length cap2 7) rfl (by simp [den, hv2])).see [(b2, false, .arr o2 x.S.length (fun j => sadC (nth sad0 x.S j)) 7 u2 fz2)] (HpAll.one hrep2')
      by_cases d1 : 1152921504606846976 < z.id
      · refine seg cfg11_ok mixed PanicFree.body 1000 [true, true] [(32, true)] h4 (by first | trivial | exact HpRep.nil | assumption) (by kernel_rfl) fun s_ hs_ => ?_
        simp (maxSteps := 10000000) [SX.vc, SX.stop, SX.contS, SX.contB, SX.contW, SX.contR, SX.contD, SX.sxStep, SX.stepPure, SX.stepNew, SX.stepStore, SX.stepKeep, SX.guardIx, SX.evOp, SX.opd, SX.opds, SX.optOpd, SX.look, SX.putS, SX.gobs, SX.AllP, SX.leave, SX.lookC, SX.lookB, SX.lookT, SX.lookN, SX.findK, SX.evBuiltin, SX.ints, SX.foldI, SX.evBin, SX.evInt, SX.evStr, SX.evEq, SX.arith, SX.evLoad, SX.shapeUp, SX.evFieldAddr, SX.evField, SX.evIndexAddr, SX.evIndex, SX.evFill, SX.evBuild, SX.szs, SX.cellsV, SX.evNew, SX.evStore, SX.spliceL, SX.SV.cells, SX.evConv, SX.evSlice, SX.bnd, SX.evNil, SX.evUn, SX.evPick, SX.pickOpd, SX.popTo, SX.cnd, SX.env0, SX.TD.isAgg, SX.TD.isIface, SX.tails, SX.NotAgg, SX.evLookup, SX.evConvH, SX.evPtrEq, SX.isCells, SX.thaw, SX.frz, SX.fixB, SX.rootIx, SX.Froz, SX.frzStep, SX.fork, Go.Value.cells, Go.undef, cfg11, sadC, hz, d1]
        refine ⟨by (unfold SX.Ob; first | trivial | omega | ((try simp only [SX.inK]); (try simp [SX.den, SX.IsU8, SX.AllP, *]); (try omega))), ?_⟩
        intro a5 w5 hr5 _
        exact post_retn (end1 hr5 rfl rfl ⟨by rw [decide_eq_false (hbad fun h => absurd (h.2.2 z hzS).1 (by omega))], hr5.keeps.toBelow⟩).1
      by_cases d2 : z.m.n1 + z.m.n2 ≤ 1000
      rotate_left
      · have d2' : (1000 : Int) < (z.m.n1 : Int) + (z.m.n2 : Int) := by omega
        refine seg cfg11_ok mixed PanicFree.body 1000 [true, true] [(32, false)] h4 (by first | trivial | exact HpRep.nil | assumption) (by kernel_rfl) fun s_ hs_ => ?_
        simp (maxSteps := 10000000) [SX.vc, SX.stop, SX.contS, SX.contB, SX.contW, SX.contR, SX.contD, SX.sxStep, SX.stepPure, SX.stepNew, SX.stepStore, SX.stepKeep, SX.guardIx, SX.evOp, SX.opd, SX.opds, SX.optOpd, SX.look, SX.putS, SX.gobs, SX.AllP, SX.leave, SX.lookC, SX.lookB, SX.lookT, SX.lookN, SX.findK, SX.evBuiltin, SX.ints, SX.foldI, SX.evBin, SX.evInt, SX.evStr, SX.evEq, SX.arith, SX.evLoad, SX.shapeUp, SX.evFieldAddr, SX.evField, SX.evIndexAddr, SX.evIndex, SX.evFill, SX.evBuild, SX.szs, SX.cellsV, SX.evNew, SX.evStore, SX.spliceL, SX.SV.cells, SX.evConv, SX.evSlice, SX.bnd, SX.evNil, SX.evUn, SX.evPick, SX.pickOpd, SX.popTo, SX.cnd, SX.env0, SX.TD.isAgg, SX.TD.isIface, SX.tails, SX.NotAgg, SX.evLookup, SX.evConvH, SX.evPtrEq, SX.isCells, SX.thaw, SX.frz, SX.fixB, SX.rootIx, SX.Froz, SX.frzStep, SX.fork, Go.Value.cells, Go.undef, cfg11, sadC, hz, d1, d2']
        refine ⟨by (unfold SX.Ob; first | trivial | omega | ((try simp only [SX.inK]); (try simp [SX.den, SX.IsU8, SX.AllP, *]); (try omega))), ?_⟩
        intro a5 w5 hr5 _
        exact post_retn (end1 hr5 rfl rfl ⟨by rw [decide_eq_false (hbad fun h => d2 (h.2.2 z hzS).2)], hr5.keeps.toBelow⟩).1
      · have d2' : ¬ (1000 : Int) < (z.m.n1 : Int) + (z.m.n2 : Int) := by omega
        refine seg cfg11_ok mixed PanicFree.body 1000 [true, false] [(32, false)] h4 (by first | trivial | exact HpRep.nil | assumption) (by kernel_rfl) fun s_ hs_ => ?_
        simp (maxSteps := 10000000) [SX.vc, SX.stop, SX.contS, SX.contB, SX.contW, SX.contR, SX.contD, SX.sxStep, SX.stepPure, SX.stepNew, SX.stepStore, SX.stepKeep, SX.guardIx, SX.evOp, SX.opd, SX.opds, SX.optOpd, SX.look, SX.putS, SX.gobs, SX.AllP, SX.leave, SX.lookC, SX.lookB, SX.lookT, SX.lookN, SX.findK, SX.evBuiltin, SX.ints, SX.foldI, SX.evBin, SX.evInt, SX.evStr, SX.evEq, SX.arith, SX.evLoad, SX.shapeUp, SX.evFieldAddr, SX.evField, SX.evIndexAddr, SX.evIndex, SX.evFill, SX.evBuild, SX.szs, SX.cellsV, SX.evNew, SX.evStore, SX.spliceL, SX.SV.cells, SX.evConv, SX.evSlice, SX.bnd, SX.evNil, SX.evUn, SX.evPick, SX.pickOpd, SX.popTo, SX.cnd, SX.env0, SX.TD.isAgg, SX.TD.isIface, SX.tails, SX.NotAgg, SX.evLookup, SX.evConvH, SX.evPtrEq, SX.isCells, SX.thaw, SX.frz, SX.fixB, SX.rootIx, SX.Froz, SX.frzStep, SX.fork, Go.Value.cells, Go.undef, cfg11, sadC, hz, d1, d2']
        refine ⟨by (unfold SX.Ob; first | trivial | omega | ((try simp only [SX.inK]); (try simp [SX.den, SX.IsU8, SX.AllP, *]); (try omega))), ?_⟩
        intro a5 w5 hr5 _
        exact post_rnd (x.S.length - (j + 1)) (by omega) ⟨j + 1, rfl, hlt2, fun i hi3 => (by
          rcases Nat.lt_or_ge i j with h | h
          · exact hi2 i h
          · obtain rfl : i = j := by omega
            rw [hz]; exact ⟨by omega, d2⟩), hr5.re (by simp [envTo, SX.look, den, hv2]) trivial rfl rfl⟩
    · obtain rfl : j = x.S.length := by omega
      refine seg cfg11_ok mixed PanicFree.body 1000 [false] [] hr4 (by first | trivial | exact HpRep.nil | assumption) (by kernel_rfl) fun s_ hs_ => ?_
      simp (maxSteps := 10000000) [SX.vc, SX.stop, SX.contS, SX.contB, SX.contW, SX.contR, SX.contD, SX.sxStep, SX.stepPure, SX.stepNew, SX.stepStore, SX.stepKeep, SX.guardIx, SX.evOp, SX.opd, SX.opds, SX.optOpd, SX.look, SX.putS, SX.gobs, SX.AllP, SX.leave, SX.lookC, SX.lookB, SX.lookT, SX.lookN, SX.findK, SX.evBuiltin, SX.ints, SX.foldI, SX.evBin, SX.evInt, SX.evStr, SX.evEq, SX.arith, SX.evLoad, SX.shapeUp, SX.evFieldAddr, SX.evField, SX.evIndexAddr, SX.evIndex, SX.evFill, SX.evBuild, SX.szs, SX.cellsV, SX.evNew, SX.evStore, SX.spliceL, SX.SV.cells, SX.evConv, SX.evSlice, SX.bnd, SX.evNil, SX.evUn, SX.evPick, SX.pickOpd, SX.popTo, SX.cnd, SX.env0, SX.TD.isAgg, SX.TD.isIface, SX.tails, SX.NotAgg, SX.evLookup, SX.evConvH, SX.evPtrEq, SX.isCells, SX.thaw, SX.frz, SX.fixB, SX.rootIx, SX.Froz, SX.frzStep, SX.fork, Go.Value.cells, Go.undef, cfg11]
      refine ⟨by (unfold SX.Ob; first | trivial | omega | ((try simp only [SX.inK]); (try simp [SX.den, SX.IsU8, SX.AllP, *]); (try omega))), ?_⟩
      intro a5 w5 hr5 _
      exact post_rnd (L.length - (k + 1)) (by omega) ⟨k + 1, rfl, hlt, fun i hi3 => (by
        rcases Nat.lt_or_ge i k with h | h
        · exact hi i h
        · obtain rfl : i = k := by omega
          rw [hx]
          refine ⟨c1, by omega, fun y hy => ?_⟩
          obtain ⟨q, hq, rfl⟩ := List.mem_iff_getElem.1 hy
          have := hi2 q hq
          rwa [nth_lt hq] at this), hr5.re (by simp [envTo, SX.look, den]) trivial rfl rfl⟩
  · obtain rfl : k = L.length := by omega
    have hiff : FewN L ↔ L.length ≤ 100 := ⟨fun h => h.2, fun h => ⟨fun s hs => (by
      obtain ⟨q, hq, rfl⟩ := List.mem_iff_getElem.1 hs
      have := hi q hq
      rwa [nth_lt hq] at this), h⟩⟩
    refine seg cfg11_ok mixed PanicFree.body 1000 [false] [] hr2 (by first | trivial | exact HpRep.nil | assumption) (by kernel_rfl) fun s_ hs_ => ?_
    simp (maxSteps := 10000000) [SX.vc, SX.stop, SX.contS, SX.contB, SX.contW, SX.contR, SX.contD, SX.sxStep, SX.stepPure, SX.stepNew, SX.stepStore, SX.stepKeep, SX.guardIx, SX.evOp, SX.opd, SX.opds, SX.optOpd, SX.look, SX.putS, SX.gobs, SX.AllP, SX.leave, SX.lookC, SX.lookB, SX.lookT, SX.lookN, SX.findK, SX.evBuiltin, SX.ints, SX.foldI, SX.evBin, SX.evInt, SX.evStr, SX.evEq, SX.arith, SX.evLoad, SX.shapeUp, SX.evFieldAddr, SX.evField, SX.evIndexAddr, SX.evIndex, SX.evFill, SX.evBuild, SX.szs, SX.cellsV, SX.evNew, SX.evStore, SX.spliceL, SX.SV.cells, SX.evConv, SX.evSlice, SX.bnd, SX.evNil, SX.evUn, SX.evPick, SX.pickOpd, SX.popTo, SX.cnd, SX.env0, SX.TD.isAgg, SX.TD.isIface, SX.tails, SX.NotAgg, SX.evLookup, SX.evConvH, SX.evPtrEq, SX.isCells, SX.thaw, SX.frz, SX.fixB, SX.rootIx, SX.Froz, SX.frzStep, SX.fork, Go.Value.cells, Go.undef, cfg11]
    refine ⟨by (unfold SX.Ob; first | trivial | omega | ((try simp only [SX.inK]); (try simp [SX.den, SX.IsU8, SX.AllP, *]); (try omega))), ?_⟩
    intro a3 w3 hr3 _
    exact post_retn (end1 hr3 rfl rfl ⟨by simp only [den, hiff]; congr 2; simp; omega, hr3.keeps.toBelow⟩).1
end Go.Proofs
