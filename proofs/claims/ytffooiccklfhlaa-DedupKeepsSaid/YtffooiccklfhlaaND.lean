/- Requests: Check, the document's Check. -/
import Derived.Test.YtffooiccklfhlaaNA
namespace Go.Proofs
set_option linter.unusedVariables false
set_option linter.unusedSimpArgs false
set_option linter.unusedSectionVars false
open Go Go.SX Go.RowKit

/-- Answers rise, and none is below. -/
def ChkS : Int → List Sad → Prop
  | _, [] => True
  | b, x :: r => b ≤ x.id ∧ ChkS (x.id + 1) r
def OneN (p : Int) (s : Sen) : Prop := 0 ≤ s.frm ∧ p < s.frm ∧ 0 ≤ s.below ∧ s.S.length ≤ 8
/-- A list that may be. -/
def ChkN : Int → List Sen → Prop
  | _, [] => True
  | p, s :: r => OneN p s ∧ ChkS s.below s.S ∧ ChkN s.frm r
instance decChkS : ∀ b L, Decidable (ChkS b L)
  | _, [] => isTrue trivial
  | b, x :: r => have := decChkS (x.id + 1) r; inferInstanceAs (Decidable (b ≤ x.id ∧ _))
instance decChkN : ∀ p L, Decidable (ChkN p L)
  | _, [] => isTrue trivial
  | p, s :: r => have := decChkN s.frm r; inferInstanceAs (Decidable ((0 ≤ s.frm ∧ p < s.frm ∧ 0 ≤ s.below ∧ s.S.length ≤ 8) ∧ _ ∧ _))
def chkN (L : List Sen) : Int := if ChkN (-1) L then 0 else 1
def prevF (L : List Sen) (k : Nat) : Int := if k = 0 then -1 else (nth sen0 L (k - 1)).frm
/-- Numbers are small enough. -/
def SmallN (L : List Sen) : Prop := ∀ s ∈ L, s.below ≤ 1152921504606846977 ∧ ∀ x ∈ s.S, x.id ≤ 1152921504606846976

def CkLoop (w : World) (L : List Sen) (v : Value) (m : Nat) (a : Act) (w' : World) : Prop :=
  ∃ (k : Nat), m = L.length - k ∧ k ≤ L.length ∧ (ChkN (-1) L ↔ ChkN (prevF L k) (L.drop k)) ∧
    RepX (frame0 w) ⟨[(10, 0, .v (.int .i64 k)), (9, 0, .v (.int .i64 L.length)), (8, 0, .v v), (0, 0, .v v), (2, 0, .v (.int .i64 0))], [], 0, 0, 62, [], [], []⟩ a w'
def CkLoop2 (w : World) (L : List Sen) (v : Value) (s : Sen) (k : Nat) (m : Nat) (a : Act) (w' : World) : Prop :=
  ∃ (j : Nat) (c : Int), m = s.S.length - j ∧ j ≤ s.S.length ∧ (ChkS s.below s.S ↔ ChkS c (s.S.drop j)) ∧ 0 ≤ c ∧ c ≤ 1152921504606846977 ∧
    RepX (frame0 w) ⟨[(49, 0, .v (.int .i64 j)), (48, 0, .v (.int .i64 s.S.length)), (47, 0, .v (.slice s.ad s.S.length s.cp)), (5, 0, .v (.int .i64 c)), (10, 0, .v (.int .i64 k)), (9, 0, .v (.int .i64 L.length)), (8, 0, .v v), (0, 0, .v v), (2, 0, .v (.int .i64 0))], [], 0, 0, 62, [], [], []⟩ a w'

set_option maxRecDepth 100000 in
set_option maxHeartbeats 16000000 in
/-- Check. -/
theorem check_ok {P : Nat → Prop} (w : World) (v : Value) (L : List Sen) (hL : RdD P w v L) (hS : SmallN L) (hn : L.length ≤ 1000000000000000) : Calls Try.prog 13 (denL [.v v]).toArray w (Ret w (.v (.int .i64 (chkN L)))) := by
  obtain ⟨ad, cp, rfl⟩ := hL.1.slice
  refine enter (F := frame0 w) Try.func13 rfl [.v (.slice ad L.length cp)] [] (by simp [Try.f13]) trivial (keeps0 w) fun a hr => ?_
  refine seg cfg13_ok mixed PanicFree.body 1000 [] [] hr (by first | trivial | exact HpRep.nil | assumption) (by kernel_rfl) fun s_ hs_ => ?_
  simp (maxSteps := 10000000) [SX.vc, SX.stop, SX.contS, SX.contB, SX.contW, SX.contR, SX.contD, SX.sxStep, SX.stepPure, SX.stepNew, SX.stepStore, SX.stepKeep, SX.guardIx, SX.evOp, SX.opd, SX.opds, SX.optOpd, SX.look, SX.putS, SX.gobs, SX.AllP, SX.leave, SX.lookC, SX.lookB, SX.lookT, SX.lookN, SX.findK, SX.evBuiltin, SX.ints, SX.foldI, SX.evBin, SX.evInt, SX.evStr, SX.evEq, SX.arith, SX.evLoad, SX.shapeUp, SX.evFieldAddr, SX.evField, SX.evIndexAddr, SX.evIndex, SX.evFill, SX.evBuild, SX.szs, SX.cellsV, SX.evNew, SX.evStore, SX.spliceL, SX.SV.cells, SX.evConv, SX.evSlice, SX.bnd, SX.evNil, SX.evUn, SX.evPick, SX.pickOpd, SX.popTo, SX.cnd, SX.env0, SX.TD.isAgg, SX.TD.isIface, SX.tails, SX.NotAgg, SX.evLookup, SX.evConvH, SX.evPtrEq, SX.isCells, SX.thaw, SX.frz, SX.fixB, SX.rootIx, SX.Froz, SX.frzStep, SX.fork, Go.Value.cells, Go.undef, cfg13, Try.f13]
  refine ⟨by (unfold SX.Ob; first | trivial | omega | ((try simp only [SX.inK]); (try simp [SX.den, SX.IsU8, SX.AllP, *]); (try omega))), ?_⟩
  intro a1 w1 hr1 _
  refine post_loop (CkLoop w L (.slice ad L.length cp)) L.length ⟨0, rfl, by omega, Iff.rfl, hr1.re (by simp [envTo, SX.look, den]) trivial rfl rfl⟩ ?_
  rintro m a2 w2 ⟨k, rfl, hk, hi, hr2⟩
  by_cases hlt : k < L.length
  · obtain ⟨b, o0, cap, u, fz, hP, hv, hrep⟩ := hL.1.opn hlt
    cases hv
    have hbw := SO.rep_lt hrep
    have hrep2 := SO.rep_same hrep (hr2.keeps.toBelow.block _ hbw)
    obtain ⟨x, hx⟩ : ∃ x, nth sen0 L k = x := ⟨_, rfl⟩
    have hxL : x ∈ L := hx ▸ nth_mem hlt
    have hnx : prevF L (k + 1) = x.frm := by rw [prevF, if_neg (by omega), Nat.add_sub_cancel, hx]
    rw [drop_nth (d := sen0) hlt, hx, ChkN, ← hnx] at hi
    have hbad : ¬ (OneN (prevF L k) x ∧ ChkS x.below x.S) → chkN L = 1 := fun h => if_neg fun hc => h ⟨(hi.1 hc).1, (hi.1 hc).2.1⟩
    have h2 := ((hr2.top 8 (.sl 0 b o0 0 L.length cp 3) rfl (by simp [den])).top 0 (.sl 0 b o0 0 L.length cp 3) rfl (by simp [den])).see [(b, false, .arr o0 L.length (fun j => senC (nth sen0 L j)) 3 u fz)] (HpAll.one hrep2)
    by_cases c1 : 0 ≤ x.frm
    rotate_left
    · refine seg cfg13_ok mixed PanicFree.body 1000 [true, true] [(18, true), (21, false), (33, true), (38, true)] h2 (by first | trivial | exact HpRep.nil | assumption) (by kernel_rfl) fun s_ hs_ => ?_
      simp (maxSteps := 10000000) [SX.vc, SX.stop, SX.contS, SX.contB, SX.contW, SX.contR, SX.contD, SX.sxStep, SX.stepPure, SX.stepNew, SX.stepStore, SX.stepKeep, SX.guardIx, SX.evOp, SX.opd, SX.opds, SX.optOpd, SX.look, SX.putS, SX.gobs, SX.AllP, SX.leave, SX.lookC, SX.lookB, SX.lookT, SX.lookN, SX.findK, SX.evBuiltin, SX.ints, SX.foldI, SX.evBin, SX.evInt, SX.evStr, SX.evEq, SX.arith, SX.evLoad, SX.shapeUp, SX.evFieldAddr, SX.evField, SX.evIndexAddr, SX.evIndex, SX.evFill, SX.evBuild, SX.szs, SX.cellsV, SX.evNew, SX.evStore, SX.spliceL, SX.SV.cells, SX.evConv, SX.evSlice, SX.bnd, SX.evNil, SX.evUn, SX.evPick, SX.pickOpd, SX.popTo, SX.cnd, SX.env0, SX.TD.isAgg, SX.TD.isIface, SX.tails, SX.NotAgg, SX.evLookup, SX.evConvH, SX.evPtrEq, SX.isCells, SX.thaw, SX.frz, SX.fixB, SX.rootIx, SX.Froz, SX.frzStep, SX.fork, Go.Value.cells, Go.undef, cfg13, senC, hx, c1]
      refine ⟨by (unfold SX.Ob; first | trivial | omega | ((try simp only [SX.inK]); (try simp [SX.den, SX.IsU8, SX.AllP, *]); (try omega))), ?_⟩
      intro a3 w3 hr3 _
      exact post_retn (end1 hr3 rfl rfl ⟨by rw [hbad fun h => c1 h.1.1], hr3.keeps.toBelow⟩).1
    by_cases c2 : prevF L k < x.frm
    rotate_left
    · rcases k with _ | k
      · exact absurd (by rw [prevF, if_pos rfl]; omega) c2
      · obtain ⟨y, hy⟩ : ∃ y, nth sen0 L k = y := ⟨_, rfl⟩
        have hyx : ¬ y.frm < x.frm := by rwa [prevF, if_neg (by omega), Nat.add_sub_cancel, hy] at c2
        have hk1 : (0 : Int) < (k : Int) + 1 := by omega
        have hkn : k < L.length := by omega
        refine seg cfg13_ok mixed PanicFree.body 1000 [true, true] [(18, false), (21, true), (33, true), (38, true)] h2 (by first | trivial | exact HpRep.nil | assumption) (by kernel_rfl) fun s_ hs_ => ?_
        simp (maxSteps := 10000000) [SX.vc, SX.stop, SX.contS, SX.contB, SX.contW, SX.contR, SX.contD, SX.sxStep, SX.stepPure, SX.stepNew, SX.stepStore, SX.stepKeep, SX.guardIx, SX.evOp, SX.opd, SX.opds, SX.optOpd, SX.look, SX.putS, SX.gobs, SX.AllP, SX.leave, SX.lookC, SX.lookB, SX.lookT, SX.lookN, SX.findK, SX.evBuiltin, SX.ints, SX.foldI, SX.evBin, SX.evInt, SX.evStr, SX.evEq, SX.arith, SX.evLoad, SX.shapeUp, SX.evFieldAddr, SX.evField, SX.evIndexAddr, SX.evIndex, SX.evFill, SX.evBuild, SX.szs, SX.cellsV, SX.evNew, SX.evStore, SX.spliceL, SX.SV.cells, SX.evConv, SX.evSlice, SX.bnd, SX.evNil, SX.evUn, SX.evPick, SX.pickOpd, SX.popTo, SX.cnd, SX.env0, SX.TD.isAgg, SX.TD.isIface, SX.tails, SX.NotAgg, SX.evLookup, SX.evConvH, SX.evPtrEq, SX.isCells, SX.thaw, SX.frz, SX.fixB, SX.rootIx, SX.Froz, SX.frzStep, SX.fork, Go.Value.cells, Go.undef, cfg13, senC, hx, hy, c1, hyx, hk1, hkn]
        refine ⟨by (unfold SX.Ob; first | trivial | omega | ((try simp only [SX.inK]); (try simp [SX.den, SX.IsU8, SX.AllP, *]); (try omega))), ?_⟩
        intro a3 w3 hr3 _
        exact post_retn (end1 hr3 rfl rfl ⟨by rw [hbad fun h => c2 h.1.2.1], hr3.keeps.toBelow⟩).1
    by_cases c3 : 0 ≤ x.below
    rotate_left
    · rcases k with _ | k
      · refine seg cfg13_ok mixed PanicFree.body 1000 [true, true] [(18, false), (21, false), (33, false), (38, true)] h2 (by first | trivial | exact HpRep.nil | assumption) (by kernel_rfl) fun s_ hs_ => ?_
        simp (maxSteps := 10000000) [SX.vc, SX.stop, SX.contS, SX.contB, SX.contW, SX.contR, SX.contD, SX.sxStep, SX.stepPure, SX.stepNew, SX.stepStore, SX.stepKeep, SX.guardIx, SX.evOp, SX.opd, SX.opds, SX.optOpd, SX.look, SX.putS, SX.gobs, SX.AllP, SX.leave, SX.lookC, SX.lookB, SX.lookT, SX.lookN, SX.findK, SX.evBuiltin, SX.ints, SX.foldI, SX.evBin, SX.evInt, SX.evStr, SX.evEq, SX.arith, SX.evLoad, SX.shapeUp, SX.evFieldAddr, SX.evField, SX.evIndexAddr, SX.evIndex, SX.evFill, SX.evBuild, SX.szs, SX.cellsV, SX.evNew, SX.evStore, SX.spliceL, SX.SV.cells, SX.evConv, SX.evSlice, SX.bnd, SX.evNil, SX.evUn, SX.evPick, SX.pickOpd, SX.popTo, SX.cnd, SX.env0, SX.TD.isAgg, SX.TD.isIface, SX.tails, SX.NotAgg, SX.evLookup, SX.evConvH, SX.evPtrEq, SX.isCells, SX.thaw, SX.frz, SX.fixB, SX.rootIx, SX.Froz, SX.frzStep, SX.fork, Go.Value.cells, Go.undef, cfg13, senC, hx, c1, c3]
        refine ⟨by (unfold SX.Ob; first | trivial | omega | ((try simp only [SX.inK]); (try simp [SX.den, SX.IsU8, SX.AllP, *]); (try omega))), ?_⟩
        intro a3 w3 hr3 _
        exact post_retn (end1 hr3 rfl rfl ⟨by rw [hbad fun h => c3 h.1.2.2.1], hr3.keeps.toBelow⟩).1
      · obtain ⟨y, hy⟩ : ∃ y, nth sen0 L k = y := ⟨_, rfl⟩
        have hyx : y.frm < x.frm := by rwa [prevF, if_neg (by omega), Nat.add_sub_cancel, hy] at c2
        have hk1 : (0 : Int) < (k : Int) + 1 := by omega
        have hkn : k < L.length := by omega
        refine seg cfg13_ok mixed PanicFree.body 1000 [true, true] [(18, false), (21, true), (33, false), (38, true)] h2 (by first | trivial | exact HpRep.nil | assumption) (by kernel_rfl) fun s_ hs_ => ?_
        simp (maxSteps := 10000000) [SX.vc, SX.stop, SX.contS, SX.contB, SX.contW, SX.contR, SX.contD, SX.sxStep, SX.stepPure, SX.stepNew, SX.stepStore, SX.stepKeep, SX.guardIx, SX.evOp, SX.opd, SX.opds, SX.optOpd, SX.look, SX.putS, SX.gobs, SX.AllP, SX.leave, SX.lookC, SX.lookB, SX.lookT, SX.lookN, SX.findK, SX.evBuiltin, SX.ints, SX.foldI, SX.evBin, SX.evInt, SX.evStr, SX.evEq, SX.arith, SX.evLoad, SX.shapeUp, SX.evFieldAddr, SX.evField, SX.evIndexAddr, SX.evIndex, SX.evFill, SX.evBuild, SX.szs, SX.cellsV, SX.evNew, SX.evStore, SX.spliceL, SX.SV.cells, SX.evConv, SX.evSlice, SX.bnd, SX.evNil, SX.evUn, SX.evPick, SX.pickOpd, SX.popTo, SX.cnd, SX.env0, SX.TD.isAgg, SX.TD.isIface, SX.tails, SX.NotAgg, SX.evLookup, SX.evConvH, SX.evPtrEq, SX.isCells, SX.thaw, SX.frz, SX.fixB, SX.rootIx, SX.Froz, SX.frzStep, SX.fork, Go.Value.cells, Go.undef, cfg13, senC, hx, hy, c1, hyx, hk1, hkn, c3]
        refine ⟨by (unfold SX.Ob; first | trivial | omega | ((try simp only [SX.inK]); (try simp [SX.den, SX.IsU8, SX.AllP, *]); (try omega))), ?_⟩
        intro a3 w3 hr3 _
        exact post_retn (end1 hr3 rfl rfl ⟨by rw [hbad fun h => c3 h.1.2.2.1], hr3.keeps.toBelow⟩).1
    by_cases c4 : x.S.length ≤ 8
    rotate_left
    · have c4' : (8 : Int) < (x.S.length : Int) := by omega
      rcases k with _ | k
      · refine seg cfg13_ok mixed PanicFree.body 1000 [true, true] [(18, false), (21, false), (33, false), (38, false)] h2 (by first | trivial | exact HpRep.nil | assumption) (by kernel_rfl) fun s_ hs_ => ?_
        simp (maxSteps := 10000000) [SX.vc, SX.stop, SX.contS, SX.contB, SX.contW, SX.contR, SX.contD, SX.sxStep, SX.stepPure, SX.stepNew, SX.stepStore, SX.stepKeep, SX.guardIx, SX.evOp, SX.opd, SX.opds, SX.optOpd, SX.look, SX.putS, SX.gobs, SX.AllP, SX.leave, SX.lookC, SX.lookB, SX.lookT, SX.lookN, SX.findK, SX.evBuiltin, SX.ints, SX.foldI, SX.evBin, SX.evInt, SX.evStr, SX.evEq, SX.arith, SX.evLoad, SX.shapeUp, SX.evFieldAddr, SX.evField, SX.evIndexAddr, SX.evIndex, SX.evFill, SX.evBuild, SX.szs, SX.cellsV, SX.evNew, SX.evStore, SX.spliceL, SX.SV.cells, SX.evConv, SX.evSlice, SX.bnd, SX.evNil, SX.evUn, SX.evPick, SX.pickOpd, SX.popTo, SX.cnd, SX.env0, SX.TD.isAgg, SX.TD.isIface, SX.tails, SX.NotAgg, SX.evLookup, SX.evConvH, SX.evPtrEq, SX.isCells, SX.thaw, SX.frz, SX.fixB, SX.rootIx, SX.Froz, SX.frzStep, SX.fork, Go.Value.cells, Go.undef, cfg13, senC, hx, c1, c3, c4']
        refine ⟨by (unfold SX.Ob; first | trivial | omega | ((try simp only [SX.inK]); (try simp [SX.den, SX.IsU8, SX.AllP, *]); (try omega))), ?_⟩
        intro a3 w3 hr3 _
        exact post_retn (end1 hr3 rfl rfl ⟨by rw [hbad fun h => c4 h.1.2.2.2], hr3.keeps.toBelow⟩).1
      · obtain ⟨y, hy⟩ : ∃ y, nth sen0 L k = y := ⟨_, rfl⟩
        have hyx : y.frm < x.frm := by rwa [prevF, if_neg (by omega), Nat.add_sub_cancel, hy] at c2
        have hk1 : (0 : Int) < (k : Int) + 1 := by omega
        have hkn : k < L.length := by omega
        refine seg cfg13_ok mixed PanicFree.body 1000 [true, true] [(18, false), (21, true), (33, false), (38, false)] h2 (by first | trivial | exact HpRep.nil | assumption) (by kernel_rfl) fun s_ hs_ => ?_
        simp (maxSteps := 10000000) [SX.vc, SX.stop, SX.contS, SX.contB, SX.contW, SX.contR, SX.contD, SX.sxStep, SX.stepPure, SX.stepNew, SX.stepStore, SX.stepKeep, SX.guardIx, SX.evOp, SX.opd, SX.opds, SX.optOpd, SX.look, SX.putS, SX.gobs, SX.AllP, SX.leave, SX.lookC, SX.lookB, SX.lookT, SX.lookN, SX.findK, SX.evBuiltin, SX.ints, SX.foldI, SX.evBin, SX.evInt, SX.evStr, SX.evEq, SX.arith, SX.evLoad, SX.shapeUp, SX.evFieldAddr, SX.evField, SX.evIndexAddr, SX.evIndex, SX.evFill, SX.evBuild, SX.szs, SX.cellsV, SX.evNew, SX.evStore, SX.spliceL, SX.SV.cells, SX.evConv, SX.evSlice, SX.bnd, SX.evNil, SX.evUn, SX.evPick, SX.pickOpd, SX.popTo, SX.cnd, SX.env0, SX.TD.isAgg, SX.TD.isIface, SX.tails, SX.NotAgg, SX.evLookup, SX.evConvH, SX.evPtrEq, SX.isCells, SX.thaw, SX.frz, SX.fixB, SX.rootIx, SX.Froz, SX.frzStep, SX.fork, Go.Value.cells, Go.undef, cfg13, senC, hx, hy, c1, hyx, hk1, hkn, c3, c4']
        refine ⟨by (unfold SX.Ob; first | trivial | omega | ((try simp only [SX.inK]); (try simp [SX.den, SX.IsU8, SX.AllP, *]); (try omega))), ?_⟩
        intro a3 w3 hr3 _
        exact post_retn (end1 hr3 rfl rfl ⟨by rw [hbad fun h => c4 h.1.2.2.2], hr3.keeps.toBelow⟩).1
    have c4' : ¬ (8 : Int) < (x.S.length : Int) := by omega
    have hOne : OneN (prevF L k) x := ⟨c1, c2, c3, c4⟩
    rcases k with _ | k
    · refine seg cfg13_ok mixed PanicFree.body 1000 [true, false] [(18, false), (21, false), (33, false), (38, false)] h2 (by first | trivial | exact HpRep.nil | assumption) (by kernel_rfl) fun s_ hs_ => ?_
      simp (maxSteps := 10000000) [SX.vc, SX.stop, SX.contS, SX.contB, SX.contW, SX.contR, SX.contD, SX.sxStep, SX.stepPure, SX.stepNew, SX.stepStore, SX.stepKeep, SX.guardIx, SX.evOp, SX.opd, SX.opds, SX.optOpd, SX.look, SX.putS, SX.gobs, SX.AllP, SX.leave, SX.lookC, SX.lookB, SX.lookT, SX.lookN, SX.findK, SX.evBuiltin, SX.ints, SX.foldI, SX.evBin, SX.evInt, SX.evStr, SX.evEq, SX.arith, SX.evLoad, SX.shapeUp, SX.evFieldAddr, SX.evField, SX.evIndexAddr, SX.evIndex, SX.evFill, SX.evBuild, SX.szs, SX.cellsV, SX.evNew, SX.evStore, SX.spliceL, SX.SV.cells, SX.evConv, SX.evSlice, SX.bnd, SX.evNil, SX.evUn, SX.evPick, SX.pickOpd, SX.popTo, SX.cnd, SX.env0, SX.TD.isAgg, SX.TD.isIface, SX.tails, SX.NotAgg, SX.evLookup, SX.evConvH, SX.evPtrEq, SX.isCells, SX.thaw, SX.frz, SX.fixB, SX.rootIx, SX.Froz, SX.frzStep, SX.fork, Go.Value.cells, Go.undef, cfg13, senC, hx, c1, c3, c4']
      refine ⟨by (unfold SX.Ob; first | trivial | omega | ((try simp only [SX.inK]); (try simp [SX.den, SX.IsU8, SX.AllP, *]); (try omega))), ?_⟩
      intro a3 w3 hr3 _
      refine post_loop (CkLoop2 w L (.slice (some ⟨b, o0, none⟩) L.length cp) x (0)) x.S.length ⟨0, x.below, rfl, by omega, Iff.rfl, c3, (hS x hxL).1, hr3.re (by simp [envTo, SX.look, den]) trivial rfl rfl⟩ ?_
      rintro m a4 w4 ⟨j, c, rfl, hj, hi2, hc0, hc1, hr4⟩
      by_cases hlt2 : j < x.S.length
      · obtain ⟨b2, o2, cap2, u2, fz2, hP2, hv2, hrep2'⟩ := ((hL.2 x hxL).below hr4.keeps.toBelow).opn hlt2
        obtain ⟨z, hz⟩ : ∃ z, nth sad0 x.S j = z := ⟨_, rfl⟩
        have hzS : z.id ≤ 1152921504606846976 := (hS x hxL).2 z (hz ▸ nth_mem hlt2)
        rw [drop_nth (d := sad0) hlt2, hz, ChkS] at hi2
        have h4 := (hr4.top 47 (.sl 0 b2 o2 0 x.S.length cap2 7) rfl (by simp [den, hv2])).see [(b2, false, .arr o2 x.S.length (fun j => sadC (nth sad0 x.S j)) 7 u2 fz2)] (HpAll.one hrep2')
        by_cases d1 : z.id < c
        · refine seg cfg13_ok mixed PanicFree.body 1000 [true, true] [] h4 (by first | trivial | exact HpRep.nil | assumption) (by kernel_rfl) fun s_ hs_ => ?_
          simp (maxSteps := 10000000) [SX.vc, SX.stop, SX.contS, SX.contB, SX.contW, SX.contR, SX.contD, SX.sxStep, SX.stepPure, SX.stepNew, SX.stepStore, SX.stepKeep, SX.guardIx, SX.evOp, SX.opd, SX.opds, SX.optOpd, SX.look, SX.putS, SX.gobs, SX.AllP, SX.leave, SX.lookC, SX.lookB, SX.lookT, SX.lookN, SX.findK, SX.evBuiltin, SX.ints, SX.foldI, SX.evBin, SX.evInt, SX.evStr, SX.evEq, SX.arith, SX.evLoad, SX.shapeUp, SX.evFieldAddr, SX.evField, SX.evIndexAddr, SX.evIndex, SX.evFill, SX.evBuild, SX.szs, SX.cellsV, SX.evNew, SX.evStore, SX.spliceL, SX.SV.cells, SX.evConv, SX.evSlice, SX.bnd, SX.evNil, SX.evUn, SX.evPick, SX.pickOpd, SX.popTo, SX.cnd, SX.env0, SX.TD.isAgg, SX.TD.isIface, SX.tails, SX.NotAgg, SX.evLookup, SX.evConvH, SX.evPtrEq, SX.isCells, SX.thaw, SX.frz, SX.fixB, SX.rootIx, SX.Froz, SX.frzStep, SX.fork, Go.Value.cells, Go.undef, cfg13, sadC, hz, d1]
          refine ⟨by (unfold SX.Ob; first | trivial | omega | ((try simp only [SX.inK]); (try simp [SX.den, SX.IsU8, SX.AllP, *]); (try omega))), ?_⟩
          intro a5 w5 hr5 _
          exact post_retn (end1 hr5 rfl rfl ⟨by rw [hbad fun h => by have := (hi2.1 h.2).1; omega], hr5.keeps.toBelow⟩).1
        · refine seg cfg13_ok mixed PanicFree.body 1000 [true, false] [] h4 (by first | trivial | exact HpRep.nil | assumption) (by kernel_rfl) fun s_ hs_ => ?_
          simp (maxSteps := 10000000) [SX.vc, SX.stop, SX.contS, SX.contB, SX.contW, SX.contR, SX.contD, SX.sxStep, SX.stepPure, SX.stepNew, SX.stepStore, SX.stepKeep, SX.guardIx, SX.evOp, SX.opd, SX.opds, SX.optOpd, SX.look, SX.putS, SX.gobs, SX.AllP, SX.leave, SX.lookC, SX.lookB, SX.lookT, SX.lookN, SX.findK, SX.evBuiltin, SX.ints, SX.foldI, SX.evBin, SX.evInt, SX.evStr, SX.evEq, SX.arith, SX.evLoad, SX.shapeUp, SX.evFieldAddr, SX.evField, SX.evIndexAddr, SX.evIndex, SX.evFill, SX.evBuild, SX.szs, SX.cellsV, SX.evNew, SX.evStore, SX.spliceL, SX.SV.cells, SX.evConv, SX.evSlice, SX.bnd, SX.evNil, SX.evUn, SX.evPick, SX.pickOpd, SX.popTo, SX.cnd, SX.env0, SX.TD.isAgg, SX.TD.isIface, SX.tails, SX.NotAgg, SX.evLookup, SX.evConvH, SX.evPtrEq, SX.isCells, SX.thaw, SX.frz, SX.fixB, SX.rootIx, SX.Froz, SX.frzStep, SX.fork, Go.Value.cells, Go.undef, cfg13, sadC, hz, d1]
          refine ⟨by (unfold SX.Ob; first | trivial | omega | ((try simp only [SX.inK]); (try simp [SX.den, SX.IsU8, SX.AllP, *]); (try omega))), ?_⟩
          intro a5 w5 hr5 _
          exact post_rnd (x.S.length - (j + 1)) (by omega) ⟨j + 1, z.id + 1, rfl, hlt2, hi2.trans ⟨fun h => h.2, fun h => ⟨by omega, h⟩⟩, by omega, by omega, hr5.re (by simp [envTo, SX.look, den, hv2]) trivial rfl rfl⟩
      · obtain rfl : j = x.S.length := by omega
        simp only [List.drop_length, ChkS, iff_true] at hi2
        refine seg cfg13_ok mixed PanicFree.body 1000 [false] [] hr4 (by first | trivial | exact HpRep.nil | assumption) (by kernel_rfl) fun s_ hs_ => ?_
        simp (maxSteps := 10000000) [SX.vc, SX.stop, SX.contS, SX.contB, SX.contW, SX.contR, SX.contD, SX.sxStep, SX.stepPure, SX.stepNew, SX.stepStore, SX.stepKeep, SX.guardIx, SX.evOp, SX.opd, SX.opds, SX.optOpd, SX.look, SX.putS, SX.gobs, SX.AllP, SX.leave, SX.lookC, SX.lookB, SX.lookT, SX.lookN, SX.findK, SX.evBuiltin, SX.ints, SX.foldI, SX.evBin, SX.evInt, SX.evStr, SX.evEq, SX.arith, SX.evLoad, SX.shapeUp, SX.evFieldAddr, SX.evField, SX.evIndexAddr, SX.evIndex, SX.evFill, SX.evBuild, SX.szs, SX.cellsV, SX.evNew, SX.evStore, SX.spliceL, SX.SV.cells, SX.evConv, SX.evSlice, SX.bnd, SX.evNil, SX.evUn, SX.evPick, SX.pickOpd, SX.popTo, SX.cnd, SX.env0, SX.TD.isAgg, SX.TD.isIface, SX.tails, SX.NotAgg, SX.evLookup, SX.evConvH, SX.evPtrEq, SX.isCells, SX.thaw, SX.frz, SX.fixB, SX.rootIx, SX.Froz, SX.frzStep, SX.fork, Go.Value.cells, Go.undef, cfg13]
        refine ⟨by (unfold SX.Ob; first | trivial | omega | ((try simp only [SX.inK]); (try simp [SX.den, SX.IsU8, SX.AllP, *]); (try omega))), ?_⟩
        intro a5 w5 hr5 _
        exact post_rnd (L.length - (0 + 1)) (by omega) ⟨0 + 1, rfl, hlt, hi.trans ⟨fun h => h.2.2, fun h => ⟨hOne, hi2, h⟩⟩, hr5.re (by simp [envTo, SX.look, den]) trivial rfl rfl⟩
    · obtain ⟨y, hy⟩ : ∃ y, nth sen0 L k = y := ⟨_, rfl⟩
      have hyx : y.frm < x.frm := by rwa [prevF, if_neg (by omega), Nat.add_sub_cancel, hy] at c2
      have hk1 : (0 : Int) < (k : Int) + 1 := by omega
      have hkn : k < L.length := by omega
      refine seg cfg13_ok mixed PanicFree.body 1000 [true, false] [(18, false), (21, true), (33, false), (38, false)] h2 (by first | trivial | exact HpRep.nil | assumption) (by kernel_rfl) fun s_ hs_ => ?_
      simp (maxSteps := 10000000) [SX.vc, SX.stop, SX.contS, SX.contB, SX.contW, SX.contR, SX.contD, SX.sxStep, SX.stepPure, SX.stepNew, SX.stepStore, SX.stepKeep, SX.guardIx, SX.evOp, SX.opd, SX.opds, SX.optOpd, SX.look, SX.putS, SX.gobs, SX.AllP, SX.leave, SX.lookC, SX.lookB, SX.lookT, SX.lookN, SX.findK, SX.evBuiltin, SX.ints, SX.foldI, SX.evBin, SX.evInt, SX.evStr, SX.evEq, SX.arith, SX.evLoad, SX.shapeUp, SX.evFieldAddr, SX.evField, SX.evIndexAddr, SX.evIndex, SX.evFill, SX.evBuild, SX.szs, SX.cellsV, SX.evNew, SX.evStore, SX.spliceL, SX.SV.cells, SX.evConv, SX.evSlice, SX.bnd, SX.evNil, SX.evUn, SX.evPick, SX.pickOpd, SX.popTo, SX.cnd, SX.env0, SX.TD.isAgg, SX.TD.isIface, SX.tails, SX.NotAgg, SX.evLookup, SX.evConvH, SX.evPtrEq, SX.isCells, SX.thaw, SX.frz, SX.fixB, SX.rootIx, SX.Froz, SX.frzStep, SX.fork, Go.Value.cells, Go.undef, cfg13, senC, hx, hy, c1, hyx, hk1, hkn, c3, c4']
      refine ⟨by (unfold SX.Ob; first | trivial | omega | ((try simp only [SX.inK]); (try simp [SX.den, SX.IsU8, SX.AllP, *]); (try omega))), ?_⟩
      intro a3 w3 hr3 _
      refine post_loop (CkLoop2 w L (.slice (some ⟨b, o0, none⟩) L.length cp) x (k + 1)) x.S.length ⟨0, x.below, rfl, by omega, Iff.rfl, c3, (hS x hxL).1, hr3.re (by simp [envTo, SX.look, den]) trivial rfl rfl⟩ ?_
      rintro m a4 w4 ⟨j, c, rfl, hj, hi2, hc0, hc1, hr4⟩
      by_cases hlt2 : j < x.S.length
      · obtain ⟨b2, o2, cap2, u2, fz2, hP2, hv2, hrep2'⟩ := ((hL.2 x hxL).below hr4.keeps.toBelow).opn hlt2
        obtain ⟨z, hz⟩ : ∃ z, nth sad0 x.S j = z := ⟨_, rfl⟩
        have hzS : z.id ≤ 1152921504606846976 := (hS x hxL).2 z (hz ▸ nth_mem hlt2)
        rw [drop_nth (d := sad0) hlt2, hz, ChkS] at hi2
        have h4 := (hr4.top 47 (.sl 0 b2 o2 0 x.S.length cap2 7) rfl (by simp [den, hv2])).see [(b2, false, .arr o2 x.S.length (fun j => sadC (nth sad0 x.S j)) 7 u2 fz2)] (HpAll.one hrep2')
        by_cases d1 : z.id < c
        · refine seg cfg13_ok mixed PanicFree.body 1000 [true, true] [] h4 (by first | trivial | exact HpRep.nil | assumption) (by kernel_rfl) fun s_ hs_ => ?_
          simp (maxSteps := 10000000) [SX.vc, SX.stop, SX.contS, SX.contB, SX.contW, SX.contR, SX.contD, SX.sxStep, SX.stepPure, SX.stepNew, SX.stepStore, SX.stepKeep, SX.guardIx, SX.evOp, SX.opd, SX.opds, SX.optOpd, SX.look, SX.putS, SX.gobs, SX.AllP, SX.leave, SX.lookC, SX.lookB, SX.lookT, SX.lookN, SX.findK, SX.evBuiltin, SX.ints, SX.foldI, SX.evBin, SX.evInt, SX.evStr, SX.evEq, SX.arith, SX.evLoad, SX.shapeUp, SX.evFieldAddr, SX.evField, SX.evIndexAddr, SX.evIndex, SX.evFill, SX.evBuild, SX.szs, SX.cellsV, SX.evNew, SX.evStore, SX.spliceL, SX.SV.cells, SX.evConv, SX.evSlice, SX.bnd, SX.evNil, SX.evUn, SX.evPick, SX.pickOpd, SX.popTo, SX.cnd, SX.env0, SX.TD.isAgg, SX.TD.isIface, SX.tails, SX.NotAgg, SX.evLookup, SX.evConvH, SX.evPtrEq, SX.isCells, SX.thaw, SX.frz, SX.fixB, SX.rootIx, SX.Froz, SX.frzStep, SX.fork, Go.Value.cells, Go.undef, cfg13, sadC, hz, d1]
          refine ⟨by (unfold SX.Ob; first | trivial | omega | ((try simp only [SX.inK]); (try simp [SX.den, SX.IsU8, SX.AllP, *]); (try omega))), ?_⟩
          intro a5 w5 hr5 _
          exact post_retn (end1 hr5 rfl rfl ⟨by rw [hbad fun h => by have := (hi2.1 h.2).1; omega], hr5.keeps.toBelow⟩).1
        · refine seg cfg13_ok mixed PanicFree.body 1000 [true, false] [] h4 (by first | trivial | exact HpRep.nil | assumption) (by kernel_rfl) fun s_ hs_ => ?_
          simp (maxSteps := 10000000) [SX.vc, SX.stop, SX.contS, SX.contB, SX.contW, SX.contR, SX.contD, SX.sxStep, SX.stepPure, SX.stepNew, SX.stepStore, SX.stepKeep, SX.guardIx, SX.evOp, SX.opd, SX.opds, SX.optOpd, SX.look, SX.putS, SX.gobs, SX.AllP, SX.leave, SX.lookC, SX.lookB, SX.lookT, SX.lookN, SX.findK, SX.evBuiltin, SX.ints, SX.foldI, SX.evBin, SX.evInt, SX.evStr, SX.evEq, SX.arith, SX.evLoad, SX.shapeUp, SX.evFieldAddr, SX.evField, SX.evIndexAddr, SX.evIndex, SX.evFill, SX.evBuild, SX.szs, SX.cellsV, SX.evNew, SX.evStore, SX.spliceL, SX.SV.cells, SX.evConv, SX.evSlice, SX.bnd, SX.evNil, SX.evUn, SX.evPick, SX.pickOpd, SX.popTo, SX.cnd, SX.env0, SX.TD.isAgg, SX.TD.isIface, SX.tails, SX.NotAgg, SX.evLookup, SX.evConvH, SX.evPtrEq, SX.isCells, SX.thaw, SX.frz, SX.fixB, SX.rootIx, SX.Froz, SX.frzStep, SX.fork, Go.Value.cells, Go.undef, cfg13, sadC, hz, d1]
          refine ⟨by (unfold SX.Ob; first | trivial | omega | ((try simp only [SX.inK]); (try simp [SX.den, SX.IsU8, SX.AllP, *]); (try omega))), ?_⟩
          intro a5 w5 hr5 _
          exact post_rnd (x.S.length - (j + 1)) (by omega) ⟨j + 1, z.id + 1, rfl, hlt2, hi2.trans ⟨fun h => h.2, fun h => ⟨by omega, h⟩⟩, by omega, by omega, hr5.re (by simp [envTo, SX.look, den, hv2]) trivial rfl rfl⟩
      · obtain rfl : j = x.S.length := by omega
        simp only [List.drop_length, ChkS, iff_true] at hi2
        refine seg cfg13_ok mixed PanicFree.body 1000 [false] [] hr4 (by first | trivial | exact HpRep.nil | assumption) (by kernel_rfl) fun s_ hs_ => ?_
        simp (maxSteps := 10000000) [SX.vc, SX.stop, SX.contS, SX.contB, SX.contW, SX.contR, SX.contD, SX.sxStep, SX.stepPure, SX.stepNew, SX.stepStore, SX.stepKeep, SX.guardIx, SX.evOp, SX.opd, SX.opds, SX.optOpd, SX.look, SX.putS, SX.gobs, SX.AllP, SX.leave, SX.lookC, SX.lookB, SX.lookT, SX.lookN, SX.findK, SX.evBuiltin, SX.ints, SX.foldI, SX.evBin, SX.evInt, SX.evStr, SX.evEq, SX.arith, SX.evLoad, SX.shapeUp, SX.evFieldAddr, SX.evField, SX.evIndexAddr, SX.evIndex, SX.evFill, SX.evBuild, SX.szs, SX.cellsV, SX.evNew, SX.evStore, SX.spliceL, SX.SV.cells, SX.evConv, SX.evSlice, SX.bnd, SX.evNil, SX.evUn, SX.evPick, SX.pickOpd, SX.popTo, SX.cnd, SX.env0, SX.TD.isAgg, SX.TD.isIface, SX.tails, SX.NotAgg, SX.evLookup, SX.evConvH, SX.evPtrEq, SX.isCells, SX.thaw, SX.frz, SX.fixB, SX.rootIx, SX.Froz, SX.frzStep, SX.fork, Go.Value.cells, Go.undef, cfg13]
        refine ⟨by (unfold SX.Ob; first | trivial | omega | ((try simp only [SX.inK]); (try simp [SX.den, SX.IsU8, SX.AllP, *]); (try omega))), ?_⟩
        intro a5 w5 hr5 _
        exact post_rnd (L.length - (k + 1 + 1)) (by omega) ⟨k + 1 + 1, rfl, hlt, hi.trans ⟨fun h => h.2.2, fun h => ⟨hOne, hi2, h⟩⟩, hr5.re (by simp [envTo, SX.look, den]) trivial rfl rfl⟩
  · obtain rfl : k = L.length := by omega
    simp only [List.drop_length, ChkN, iff_true] at hi
    have hc : chkN L = 0 := if_pos hi
    refine seg cfg13_ok mixed PanicFree.body 1000 [false] [] hr2 (by first | trivial | exact HpRep.nil | assumption) (by kernel_rfl) fun s_ hs_ => ?_
    simp (maxSteps := 10000000) [SX.vc, SX.stop, SX.contS, SX.contB, SX.contW, SX.contR, SX.contD, SX.sxStep, SX.stepPure, SX.stepNew, SX.stepStore, SX.stepKeep, SX.guardIx, SX.evOp, SX.opd, SX.opds, SX.optOpd, SX.look, SX.putS, SX.gobs, SX.AllP, SX.leave, SX.lookC, SX.lookB, SX.lookT, SX.lookN, SX.findK, SX.evBuiltin, SX.ints, SX.foldI, SX.evBin, SX.evInt, SX.evStr, SX.evEq, SX.arith, SX.evLoad, SX.shapeUp, SX.evFieldAddr, SX.evField, SX.evIndexAddr, SX.evIndex, SX.evFill, SX.evBuild, SX.szs, SX.cellsV, SX.evNew, SX.evStore, SX.spliceL, SX.SV.cells, SX.evConv, SX.evSlice, SX.bnd, SX.evNil, SX.evUn, SX.evPick, SX.pickOpd, SX.popTo, SX.cnd, SX.env0, SX.TD.isAgg, SX.TD.isIface, SX.tails, SX.NotAgg, SX.evLookup, SX.evConvH, SX.evPtrEq, SX.isCells, SX.thaw, SX.frz, SX.fixB, SX.rootIx, SX.Froz, SX.frzStep, SX.fork, Go.Value.cells, Go.undef, cfg13]
    refine ⟨by (unfold SX.Ob; first | trivial | omega | ((try simp only [SX.inK]); (try simp [SX.den, SX.IsU8, SX.AllP, *]); (try omega))), ?_⟩
    intro a3 w3 hr3 _
    exact post_retn (end1 hr3 rfl rfl ⟨by rw [hc], hr3.keeps.toBelow⟩).1
end Go.Proofs
