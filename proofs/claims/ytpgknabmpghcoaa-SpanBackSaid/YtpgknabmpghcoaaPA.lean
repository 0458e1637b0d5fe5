/- Spans: whether an owner and an epoch may be; whether spans may be. -/
import Derived.Test.YtpgknabmpghcoaaPT
import Derived.Test.YtpgknabmpghcoaaSxO
namespace Go.Proofs
set_option linter.unusedVariables false
set_option linter.unusedSimpArgs false
open Go Go.SX Go.RowKit

theorem callable (n : Nat) {fn : Func} (h : Try.prog.funcs[n]? = some fn) (h2 : (fn.name == "runtime.NumGoroutine") = false := by kernel_rfl) (h3 : fn.body.isNone = false := by kernel_rfl) : Callable Try.prog n := ⟨fn, h, h2, h3⟩

theorem HpRep_below {H : Hp} {w w' : World} (h : HpRep H w) (hb : Below w.heap.size w w') : HpRep H w' := fun i b m o hi => SO.rep_same (h i b m o hi) (hb.block b (SO.rep_lt (h i b m o hi)))

structure Spn where
  fr : Int
  to : Int
  ow : Int
  ep : Int
deriving DecidableEq

def spn0 : Spn := ⟨0, 0, 0, 0⟩
def spnC (e : Spn) : List SV := [.v (.int .i64 e.fr), .v (.int .i64 e.to), .v (.int .i64 e.ow), .v (.int .i64 e.ep)]
abbrev RdP := RdS spnC 4 spn0
abbrev OwP := OwS spnC 4 spn0

/-- A call that tells something, and changes nothing that was there. -/
def Ret (w : World) (v : SV) (e : Ending) (w' : World) : Prop := e = .returned (den v) ∧ Below w.heap.size w w'

theorem ret_dec {b : Bool} {p : Prop} [Decidable p] (h : b = true ↔ p) : Ending.returned (den (.v (.bool b))) = Ending.returned (den (.v (.bool (decide p)))) := by
  simp only [den]
  congr 2
  rw [Bool.eq_iff_iff, h]
  simp

/-- An owner and an epoch that may be. -/
def MayO (o e : Int) : Prop := (o = -1 ∧ e = 0) ∨ (0 ≤ o ∧ o < 8 ∧ 0 < e)
instance (o e : Int) : Decidable (MayO o e) := by unfold MayO; infer_instance

/-- Spans that go on from a place. -/
def ChkS (last : Int) : List Spn → Prop
  | [] => True
  | s :: r => s.fr = last ∧ s.fr < s.to ∧ MayO s.ow s.ep ∧ ChkS s.to r
instance : ∀ (last : Int) (L : List Spn), Decidable (ChkS last L)
  | _, [] => isTrue trivial
  | last, e :: r => by
    unfold ChkS
    have := instDecidableChkS e.to r
    infer_instance
/-- Where spans end. -/
def endS (last : Int) : List Spn → Int
  | [] => last
  | s :: r => endS s.to r
/-- Spans that may be. -/
def ChkP (L : List Spn) : Prop := ChkS 0 L ∧ 0 < endS 0 L ∧ endS 0 L ≤ 1099511627776
instance (L : List Spn) : Decidable (ChkP L) := by unfold ChkP; infer_instance
def chkP (L : List Spn) : Int := if ChkP L then 0 else 1

theorem endS_le : ∀ (L : List Spn) (last : Int), ChkS last L → last ≤ endS last L
  | [], _, _ => Int.le_refl _
  | s :: r, last, h => by
    have h1 := endS_le r s.to h.2.2.2
    have h2 := h.1
    have h3 := h.2.1
    show last ≤ endS s.to r
    omega

set_option maxRecDepth 100000 in
set_option maxHeartbeats 8000000 in
/-- may. -/
theorem may_ok (w : World) (o e : Int) : Calls Try.prog 25 (denL [.v (.int .i64 o), .v (.int .i64 e)]).toArray w (Ret w (.v (.bool (decide (MayO o e))))) := by
  refine enter (F := frame0 w) Try.func25 rfl [.v (.int .i64 o), .v (.int .i64 e)] [] (by simp [Try.f25]) trivial (keeps0 w) fun a hr => ?_
  by_cases h : o = -1
  · refine seg cfg25_ok mixed PanicFree.body 1000 [true] [] hr (by first | trivial | exact HpRep.nil | assumption) (by kernel_rfl) fun s_ hs_ => ?_
    simp (maxSteps := 10000000) [SX.vc, SX.stop, SX.contS, SX.contB, SX.contW, SX.contR, SX.contD, SX.sxStep, SX.stepPure, SX.stepNew, SX.stepStore, SX.stepKeep, SX.guardIx, SX.evOp, SX.opd, SX.opds, SX.optOpd, SX.look, SX.putS, SX.gobs, SX.AllP, SX.leave, SX.lookC, SX.lookB, SX.lookT, SX.lookN, SX.findK, SX.evBuiltin, SX.ints, SX.foldI, SX.evBin, SX.evInt, SX.evStr, SX.evEq, SX.arith, SX.evLoad, SX.shapeUp, SX.evFieldAddr, SX.evField, SX.evIndexAddr, SX.evIndex, SX.evFill, SX.evBuild, SX.szs, SX.cellsV, SX.evNew, SX.evStore, SX.spliceL, SX.SV.cells, SX.evConv, SX.evSlice, SX.bnd, SX.evNil, SX.evUn, SX.evPick, SX.pickOpd, SX.popTo, SX.cnd, SX.env0, SX.TD.isAgg, SX.TD.isIface, SX.tails, SX.NotAgg, SX.evLookup, SX.evConvH, SX.evPtrEq, SX.isCells, SX.thaw, SX.frz, SX.fixB, SX.rootIx, SX.Froz, SX.frzStep, SX.fork, Go.Value.cells, Go.undef, cfg25, Try.f25, h]
    refine ⟨by (unfold SX.Ob; first | trivial | omega | ((try simp only [SX.inK]); (try simp [SX.den, SX.IsU8, SX.AllP, *]); (try omega))), ?_⟩
    intro a1 w1 hr1 _
    refine post_retn (end1 hr1 rfl rfl ⟨ret_dec ?_, hr1.keeps.toBelow⟩).1
    simp
    unfold MayO
    omega
  · by_cases h2 : 0 ≤ o
    · by_cases h3 : o < 8
      · refine seg cfg25_ok mixed PanicFree.body 1000 [false] [(11, true), (15, true)] hr (by first | trivial | exact HpRep.nil | assumption) (by kernel_rfl) fun s_ hs_ => ?_
        simp (maxSteps := 10000000) [SX.vc, SX.stop, SX.contS, SX.contB, SX.contW, SX.contR, SX.contD, SX.sxStep, SX.stepPure, SX.stepNew, SX.stepStore, SX.stepKeep, SX.guardIx, SX.evOp, SX.opd, SX.opds, SX.optOpd, SX.look, SX.putS, SX.gobs, SX.AllP, SX.leave, SX.lookC, SX.lookB, SX.lookT, SX.lookN, SX.findK, SX.evBuiltin, SX.ints, SX.foldI, SX.evBin, SX.evInt, SX.evStr, SX.evEq, SX.arith, SX.evLoad, SX.shapeUp, SX.evFieldAddr, SX.evField, SX.evIndexAddr, SX.evIndex, SX.evFill, SX.evBuild, SX.szs, SX.cellsV, SX.evNew, SX.evStore, SX.spliceL, SX.SV.cells, SX.evConv, SX.evSlice, SX.bnd, SX.evNil, SX.evUn, SX.evPick, SX.pickOpd, SX.popTo, SX.cnd, SX.env0, SX.TD.isAgg, SX.TD.isIface, SX.tails, SX.NotAgg, SX.evLookup, SX.evConvH, SX.evPtrEq, SX.isCells, SX.thaw, SX.frz, SX.fixB, SX.rootIx, SX.Froz, SX.frzStep, SX.fork, Go.Value.cells, Go.undef, cfg25, Try.f25, h, h2, h3]
        refine ⟨by (unfold SX.Ob; first | trivial | omega | ((try simp only [SX.inK]); (try simp [SX.den, SX.IsU8, SX.AllP, *]); (try omega))), ?_⟩
        intro a1 w1 hr1 _
        refine post_retn (end1 hr1 rfl rfl ⟨ret_dec ?_, hr1.keeps.toBelow⟩).1
        simp
        unfold MayO
        omega
      · refine seg cfg25_ok mixed PanicFree.body 1000 [false] [(11, true), (15, false)] hr (by first | trivial | exact HpRep.nil | assumption) (by kernel_rfl) fun s_ hs_ => ?_
        simp (maxSteps := 10000000) [SX.vc, SX.stop, SX.contS, SX.contB, SX.contW, SX.contR, SX.contD, SX.sxStep, SX.stepPure, SX.stepNew, SX.stepStore, SX.stepKeep, SX.guardIx, SX.evOp, SX.opd, SX.opds, SX.optOpd, SX.look, SX.putS, SX.gobs, SX.AllP, SX.leave, SX.lookC, SX.lookB, SX.lookT, SX.lookN, SX.findK, SX.evBuiltin, SX.ints, SX.foldI, SX.evBin, SX.evInt, SX.evStr, SX.evEq, SX.arith, SX.evLoad, SX.shapeUp, SX.evFieldAddr, SX.evField, SX.evIndexAddr, SX.evIndex, SX.evFill, SX.evBuild, SX.szs, SX.cellsV, SX.evNew, SX.evStore, SX.spliceL, SX.SV.cells, SX.evConv, SX.evSlice, SX.bnd, SX.evNil, SX.evUn, SX.evPick, SX.pickOpd, SX.popTo, SX.cnd, SX.env0, SX.TD.isAgg, SX.TD.isIface, SX.tails, SX.NotAgg, SX.evLookup, SX.evConvH, SX.evPtrEq, SX.isCells, SX.thaw, SX.frz, SX.fixB, SX.rootIx, SX.Froz, SX.frzStep, SX.fork, Go.Value.cells, Go.undef, cfg25, Try.f25, h, h2, h3]
        refine ⟨by (unfold SX.Ob; first | trivial | omega | ((try simp only [SX.inK]); (try simp [SX.den, SX.IsU8, SX.AllP, *]); (try omega))), ?_⟩
        intro a1 w1 hr1 _
        refine post_retn (end1 hr1 rfl rfl ⟨ret_dec ?_, hr1.keeps.toBelow⟩).1
        simp
        unfold MayO
        omega
    · refine seg cfg25_ok mixed PanicFree.body 1000 [false] [(11, false), (15, false)] hr (by first | trivial | exact HpRep.nil | assumption) (by kernel_rfl) fun s_ hs_ => ?_
      simp (maxSteps := 10000000) [SX.vc, SX.stop, SX.contS, SX.contB, SX.contW, SX.contR, SX.contD, SX.sxStep, SX.stepPure, SX.stepNew, SX.stepStore, SX.stepKeep, SX.guardIx, SX.evOp, SX.opd, SX.opds, SX.optOpd, SX.look, SX.putS, SX.gobs, SX.AllP, SX.leave, SX.lookC, SX.lookB, SX.lookT, SX.lookN, SX.findK, SX.evBuiltin, SX.ints, SX.foldI, SX.evBin, SX.evInt, SX.evStr, SX.evEq, SX.arith, SX.evLoad, SX.shapeUp, SX.evFieldAddr, SX.evField, SX.evIndexAddr, SX.evIndex, SX.evFill, SX.evBuild, SX.szs, SX.cellsV, SX.evNew, SX.evStore, SX.spliceL, SX.SV.cells, SX.evConv, SX.evSlice, SX.bnd, SX.evNil, SX.evUn, SX.evPick, SX.pickOpd, SX.popTo, SX.cnd, SX.env0, SX.TD.isAgg, SX.TD.isIface, SX.tails, SX.NotAgg, SX.evLookup, SX.evConvH, SX.evPtrEq, SX.isCells, SX.thaw, SX.frz, SX.fixB, SX.rootIx, SX.Froz, SX.frzStep, SX.fork, Go.Value.cells, Go.undef, cfg25, Try.f25, h, h2]
      refine ⟨by (unfold SX.Ob; first | trivial | omega | ((try simp only [SX.inK]); (try simp [SX.den, SX.IsU8, SX.AllP, *]); (try omega))), ?_⟩
      intro a1 w1 hr1 _
      refine post_retn (end1 hr1 rfl rfl ⟨ret_dec ?_, hr1.keeps.toBelow⟩).1
      simp
      unfold MayO
      omega
end Go.Proofs
