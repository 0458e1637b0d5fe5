/- D1: texts of this proof, joined. -/
import Derived.Test.YtbhkpmnieopddaaT
import Derived.Test.YtbhkpmnieopddaaA4
set_option linter.unusedVariables false
set_option linter.unusedSimpArgs false
set_option linter.unusedSectionVars false
namespace Go.Proofs.S7
open Go Go.Proofs Go.SX Go.RowKit
theorem callable (n : Nat) {fn : Func} (h : Try.prog.funcs[n]? = some fn) (h2 : (fn.name == "runtime.NumGoroutine") = false := by kernel_rfl) (h3 : fn.body.isNone = false := by kernel_rfl) : Callable Try.prog n := ⟨fn, h, h2, h3⟩
theorem HpRep_below {H : Hp} {w w' : World} (h : HpRep H w) (hb : Below w.heap.size w w') : HpRep H w' := fun i b m o hi => SO.rep_same (h i b m o hi) (hb.block b (SO.rep_lt (h i b m o hi)))
structure Spn where
  fr : Int
  to : Int
  ow : Int
  ep : Int
deriving DecidableEq
def spn0 : Spn := ⟨0, 0, 0, 0⟩
def spnC (e : Spn) : List SV := [.v (.int .i64 e.fr), .v (.int .i64 e.to), .v (.int .i64 e.ow), .v (.int .i64 e.ep)]
abbrev RdP := RdS spnC 4 spn0
abbrev OwP := OwS spnC 4 spn0
def Ret (w : World) (v : SV) (e : Ending) (w' : World) : Prop := e = .returned (den v) ∧ Below w.heap.size w w'
theorem ret_dec {b : Bool} {p : Prop} [Decidable p] (h : b = true ↔ p) : Ending.returned (den (.v (.bool b))) = Ending.returned (den (.v (.bool (decide p)))) := by
  simp only [den]
  congr 2
  rw [Bool.eq_iff_iff, h]
  simp
def MayO (o e : Int) : Prop := (o = -1 ∧ e = 0) ∨ (0 ≤ o ∧ o < 8 ∧ 0 < e)
instance (o e : Int) : Decidable (MayO o e) := by unfold MayO; infer_instance
def ChkS (last : Int) : List Spn → Prop
  | [] => True
  | s :: r => s.fr = last ∧ s.fr < s.to ∧ MayO s.ow s.ep ∧ ChkS s.to r
instance : ∀ (last : Int) (L : List Spn), Decidable (ChkS last L)
  | _, [] => isTrue trivial
  | last, e :: r => by
    unfold ChkS
    have := instDecidableChkS e.to r
    infer_instance
def endS (last : Int) : List Spn → Int
  | [] => last
  | s :: r => endS s.to r
def ChkP (L : List Spn) : Prop := ChkS 0 L ∧ 0 < endS 0 L ∧ endS 0 L ≤ 1099511627776
instance (L : List Spn) : Decidable (ChkP L) := by unfold ChkP; infer_instance
def chkP (L : List Spn) : Int := if ChkP L then 0 else 1
theorem endS_le : ∀ (L : List Spn) (last : Int), ChkS last L → last ≤ endS last L
  | [], _, _ => Int.le_refl _
  | s :: r, last, h => by
    have h1 := endS_le r s.to h.2.2.2
    have h2 := h.1
    have h3 := h.2.1
    show last ≤ endS s.to r
    omega
set_option maxRecDepth 100000 in
set_option maxHeartbeats 8000000 in
theorem may_ok (w : World) (o e : Int) : Calls Try.prog 73 (denL [.v (.int .i64 o), .v (.int .i64 e)]).toArray w (Ret w (.v (.bool (decide (MayO o e))))) := by
  refine enter (F := frame0 w) Try.func73 rfl [.v (.int .i64 o), .v (.int .i64 e)] [] (by simp [Try.f73]) trivial (keeps0 w) fun a hr => ?_
  by_cases h : o = -1
  · refine seg cfg73_ok mixed PanicFree.body 1000 [true] [] hr (by first | trivial | exact HpRep.nil | assumption) (by kernel_rfl) fun s_ hs_ => ?_
    simp (maxSteps := 10000000) [SX.vc, SX.stop, SX.contS, SX.contB, SX.sxStep, SX.stepPure, SX.guardIx, SX.evOp, SX.opd, SX.look, SX.putS, SX.gobs, SX.AllP, SX.leave, SX.evBin, SX.evInt, SX.env0, cfg73, Try.f73, h]
    refine ⟨by (unfold SX.Ob; first | trivial | omega | ((try simp only [SX.inK]); (try simp [SX.den, SX.IsU8, SX.AllP, *]); (try omega))), ?_⟩
    intro a1 w1 hr1 _
    refine post_retn (end1 hr1 rfl rfl ⟨ret_dec ?_, hr1.keeps.toBelow⟩).1
    simp
    unfold MayO
    omega
  · by_cases h2 : 0 ≤ o
    · by_cases h3 : o < 8
      · refine seg cfg73_ok mixed PanicFree.body 1000 [false] [(11, true), (15, true)] hr (by first | trivial | exact HpRep.nil | assumption) (by kernel_rfl) fun s_ hs_ => ?_
        simp (maxSteps := 10000000) [SX.vc, SX.stop, SX.contS, SX.contB, SX.sxStep, SX.stepPure, SX.guardIx, SX.evOp, SX.opd, SX.look, SX.putS, SX.gobs, SX.AllP, SX.leave, SX.lookB, SX.evBin, SX.evInt, SX.evPick, SX.cnd, SX.env0, Go.undef, cfg73, Try.f73, h, h2, h3]
        refine ⟨by (unfold SX.Ob; first | trivial | omega | ((try simp only [SX.inK]); (try simp [SX.den, SX.IsU8, SX.AllP, *]); (try omega))), ?_⟩
        intro a1 w1 hr1 _
        refine post_retn (end1 hr1 rfl rfl ⟨ret_dec ?_, hr1.keeps.toBelow⟩).1
        simp
        unfold MayO
        omega
      · refine seg cfg73_ok mixed PanicFree.body 1000 [false] [(11, true), (15, false)] hr (by first | trivial | exact HpRep.nil | assumption) (by kernel_rfl) fun s_ hs_ => ?_
        simp (maxSteps := 10000000) [SX.vc, SX.stop, SX.contS, SX.contB, SX.sxStep, SX.stepPure, SX.guardIx, SX.evOp, SX.opd, SX.look, SX.putS, SX.gobs, SX.AllP, SX.leave, SX.lookB, SX.evBin, SX.evInt, SX.evPick, SX.cnd, SX.env0, Go.undef, cfg73, Try.f73, h, h2, h3]
        refine ⟨by (unfold SX.Ob; first | trivial | omega | ((try simp only [SX.inK]); (try simp [SX.den, SX.IsU8, SX.AllP, *]); (try omega))), ?_⟩
        intro a1 w1 hr1 _
        refine post_retn (end1 hr1 rfl rfl ⟨ret_dec ?_, hr1.keeps.toBelow⟩).1
        simp
        unfold MayO
        omega
    · refine seg cfg73_ok mixed PanicFree.body 1000 [false] [(11, false), (15, false)] hr (by first | trivial | exact HpRep.nil | assumption) (by kernel_rfl) fun s_ hs_ => ?_
      simp (maxSteps := 10000000) [SX.vc, SX.stop, SX.contS, SX.contB, SX.sxStep, SX.stepPure, SX.guardIx, SX.evOp, SX.opd, SX.look, SX.putS, SX.gobs, SX.AllP, SX.leave, SX.lookB, SX.evBin, SX.evInt, SX.evPick, SX.cnd, SX.env0, Go.undef, cfg73, Try.f73, h, h2]
      refine ⟨by (unfold SX.Ob; first | trivial | omega | ((try simp only [SX.inK]); (try simp [SX.den, SX.IsU8, SX.AllP, *]); (try omega))), ?_⟩
      intro a1 w1 hr1 _
      refine post_retn (end1 hr1 rfl rfl ⟨ret_dec ?_, hr1.keeps.toBelow⟩).1
      simp
      unfold MayO
      omega
end Go.Proofs.S7
namespace Go.Proofs.S7
open Go Go.Proofs Go.SX Go.RowKit
set_option maxRecDepth 100000 in
set_option maxHeartbeats 8000000 in
theorem owner_ok (w : World) (o e : Int) : Calls Try.prog 35 (denL [.v (.int .i64 o), .v (.int .i64 e)]).toArray w (Ret w (.v (.bool (decide (MayO o e))))) := by
  refine enter (F := frame0 w) Try.func35 rfl [.v (.int .i64 o), .v (.int .i64 e)] [] (by simp [Try.f35]) trivial (keeps0 w) fun a hr => ?_
  by_cases h : o = -1
  · by_cases h1 : e = 0
    · refine seg cfg35_ok mixed PanicFree.body 1000 [] [(7, true), (11, true)] hr (by first | trivial | exact HpRep.nil | assumption) (by kernel_rfl) fun s_ hs_ => ?_
      simp (maxSteps := 10000000) [SX.vc, SX.stop, SX.contS, SX.sxStep, SX.stepPure, SX.guardIx, SX.evOp, SX.opd, SX.look, SX.putS, SX.gobs, SX.AllP, SX.leave, SX.lookB, SX.evBin, SX.evInt, SX.evPick, SX.cnd, SX.env0, Go.undef, cfg35, Try.f35, h, h1]
      refine ⟨by (unfold SX.Ob; first | trivial | omega | ((try simp only [SX.inK]); (try simp [SX.den, SX.IsU8, SX.AllP, *]); (try omega))), ?_⟩
      intro a1 w1 hr1 _
      refine post_retn (end1 hr1 rfl rfl ⟨ret_dec ?_, hr1.keeps.toBelow⟩).1
      simp
      unfold MayO
      omega
    · refine seg cfg35_ok mixed PanicFree.body 1000 [] [(7, true), (11, false), (14, false), (18, false)] hr (by first | trivial | exact HpRep.nil | assumption) (by kernel_rfl) fun s_ hs_ => ?_
      simp (maxSteps := 10000000) [SX.vc, SX.stop, SX.contS, SX.sxStep, SX.stepPure, SX.guardIx, SX.evOp, SX.opd, SX.look, SX.putS, SX.gobs, SX.AllP, SX.leave, SX.lookB, SX.evBin, SX.evInt, SX.evPick, SX.cnd, SX.env0, Go.undef, cfg35, Try.f35, h, h1]
      refine ⟨by (unfold SX.Ob; first | trivial | omega | ((try simp only [SX.inK]); (try simp [SX.den, SX.IsU8, SX.AllP, *]); (try omega))), ?_⟩
      intro a1 w1 hr1 _
      refine post_retn (end1 hr1 rfl rfl ⟨ret_dec ?_, hr1.keeps.toBelow⟩).1
      simp
      unfold MayO
      omega
  · by_cases h2 : 0 ≤ o
    · by_cases h3 : o < 8
      · refine seg cfg35_ok mixed PanicFree.body 1000 [] [(7, false), (11, false), (14, true), (18, true)] hr (by first | trivial | exact HpRep.nil | assumption) (by kernel_rfl) fun s_ hs_ => ?_
        simp (maxSteps := 10000000) [SX.vc, SX.stop, SX.contS, SX.sxStep, SX.stepPure, SX.guardIx, SX.evOp, SX.opd, SX.look, SX.putS, SX.gobs, SX.AllP, SX.leave, SX.lookB, SX.evBin, SX.evInt, SX.evPick, SX.cnd, SX.env0, Go.undef, cfg35, Try.f35, h, h2, h3]
        refine ⟨by (unfold SX.Ob; first | trivial | omega | ((try simp only [SX.inK]); (try simp [SX.den, SX.IsU8, SX.AllP, *]); (try omega))), ?_⟩
        intro a1 w1 hr1 _
        refine post_retn (end1 hr1 rfl rfl ⟨ret_dec ?_, hr1.keeps.toBelow⟩).1
        simp
        unfold MayO
        omega
      · refine seg cfg35_ok mixed PanicFree.body 1000 [] [(7, false), (11, false), (14, true), (18, false)] hr (by first | trivial | exact HpRep.nil | assumption) (by kernel_rfl) fun s_ hs_ => ?_
        simp (maxSteps := 10000000) [SX.vc, SX.stop, SX.contS, SX.sxStep, SX.stepPure, SX.guardIx, SX.evOp, SX.opd, SX.look, SX.putS, SX.gobs, SX.AllP, SX.leave, SX.lookB, SX.evBin, SX.evInt, SX.evPick, SX.cnd, SX.env0, Go.undef, cfg35, Try.f35, h, h2, h3]
        refine ⟨by (unfold SX.Ob; first | trivial | omega | ((try simp only [SX.inK]); (try simp [SX.den, SX.IsU8, SX.AllP, *]); (try omega))), ?_⟩
        intro a1 w1 hr1 _
        refine post_retn (end1 hr1 rfl rfl ⟨ret_dec ?_, hr1.keeps.toBelow⟩).1
        simp
        unfold MayO
        omega
    · refine seg cfg35_ok mixed PanicFree.body 1000 [] [(7, false), (11, false), (14, false), (18, false)] hr (by first | trivial | exact HpRep.nil | assumption) (by kernel_rfl) fun s_ hs_ => ?_
      simp (maxSteps := 10000000) [SX.vc, SX.stop, SX.contS, SX.sxStep, SX.stepPure, SX.guardIx, SX.evOp, SX.opd, SX.look, SX.putS, SX.gobs, SX.AllP, SX.leave, SX.lookB, SX.evBin, SX.evInt, SX.evPick, SX.cnd, SX.env0, Go.undef, cfg35, Try.f35, h, h2]
      refine ⟨by (unfold SX.Ob; first | trivial | omega | ((try simp only [SX.inK]); (try simp [SX.den, SX.IsU8, SX.AllP, *]); (try omega))), ?_⟩
      intro a1 w1 hr1 _
      refine post_retn (end1 hr1 rfl rfl ⟨ret_dec ?_, hr1.keeps.toBelow⟩).1
      simp
      unfold MayO
      omega
def ChkLoop (w : World) (v : Value) (L : List Spn) (m : Nat) (a : Act) (w' : World) : Prop :=
  ∃ (k : Nat) (last : Int), m = L.length - k ∧ k ≤ L.length ∧ (ChkS 0 L ↔ ChkS last (L.drop k)) ∧ endS 0 L = endS last (L.drop k) ∧
    RepX (frame0 w) ⟨[(8, 0, .v (.int .i64 k)), (7, 0, .v (.int .i64 L.length)), (6, 0, .v v), (3, 0, .v (.int .i64 last))], [], 0, 0, 39, [], [], []⟩ a w'
set_option maxRecDepth 100000 in
set_option maxHeartbeats 8000000 in
theorem check_ok {P : Nat → Prop} (w : World) (v : Value) (L : List Spn) (hL : RdP P w v L) (hn : L.length ≤ 1000000000000000) : Calls Try.prog 88 (denL [.v v]).toArray w (Ret w (.v (.int .i64 (chkP L)))) := by
  obtain ⟨ad, cp, rfl⟩ := hL.slice
  refine enter (F := frame0 w) Try.func88 rfl [.v (.slice ad L.length cp)] [] (by simp [Try.f88]) trivial (keeps0 w) fun a hr => ?_
  refine seg cfg88_ok mixed PanicFree.body 1000 [] [] hr (by first | trivial | exact HpRep.nil | assumption) (by kernel_rfl) fun s_ hs_ => ?_
  simp (maxSteps := 10000000) [SX.vc, SX.stop, SX.contS, SX.sxStep, SX.stepPure, SX.guardIx, SX.evOp, SX.opd, SX.opds, SX.look, SX.putS, SX.gobs, SX.AllP, SX.leave, SX.lookT, SX.evBuiltin, SX.env0, cfg88, Try.f88]
  refine ⟨by (unfold SX.Ob; first | trivial | omega | ((try simp only [SX.inK]); (try simp [SX.den, SX.IsU8, SX.AllP, *]); (try omega))), ?_⟩
  intro a1 w1 hr1 _
  refine post_loop (ChkLoop w (.slice ad L.length cp) L) L.length ⟨0, 0, rfl, by omega, by simp, by simp, hr1.re (by simp [envTo, SX.look]) trivial rfl rfl⟩ ?_
  rintro m a2 w2 ⟨k, last, rfl, hk, hi, he, hr2⟩
  by_cases hlt : k < L.length
  · obtain ⟨b, o0, cap, u, fz, hP, hv, hrep⟩ := hL.opn hlt
    cases hv
    have hrep2 := SO.rep_same hrep (hr2.keeps.toBelow.block _ (SO.rep_lt hrep))
    obtain ⟨x, hx⟩ : ∃ x, nth spn0 L k = x := ⟨_, rfl⟩
    rw [drop_nth (d := spn0) hlt, hx] at hi he
    simp only [ChkS, endS] at hi he
    have hbad : ¬ (x.fr = last ∧ x.fr < x.to ∧ MayO x.ow x.ep) → chkP L = 1 := fun h => if_neg fun hc => h (by
      have := hi.1 hc.1
      exact ⟨this.1, this.2.1, this.2.2.1⟩)
    have h2 := (hr2.top 6 (.sl 0 b o0 0 L.length cp 4) rfl (by simp [den])).see _ (HpAll.one hrep2)
    by_cases h1 : x.fr = last
    rotate_left
    · refine seg cfg88_ok mixed PanicFree.body 1000 [true, true] [(16, true), (22, true)] h2 (by first | trivial | exact HpRep.nil | assumption) (by kernel_rfl) fun s_ hs_ => ?_
      simp (maxSteps := 10000000) [SX.vc, SX.stop, SX.contS, SX.contB, SX.sxStep, SX.stepPure, SX.stepNew, SX.stepStore, SX.guardIx, SX.evOp, SX.opd, SX.look, SX.putS, SX.gobs, SX.AllP, SX.leave, SX.lookB, SX.lookT, SX.evBin, SX.evInt, SX.evLoad, SX.shapeUp, SX.evFieldAddr, SX.evIndexAddr, SX.cellsV, SX.evNew, SX.evStore, SX.spliceL, SX.SV.cells, SX.evPick, SX.cnd, SX.TD.isAgg, SX.NotAgg, Go.Value.cells, Go.undef, cfg88, spnC, hx, h1]
      refine ⟨by (unfold SX.Ob; first | trivial | omega | ((try simp only [SX.inK]); (try simp [SX.den, SX.IsU8, SX.AllP, *]); (try omega))), ?_⟩
      intro a3 w3 hr3 _
      exact post_retn (end1 hr3 rfl rfl ⟨by rw [hbad fun h => h1 h.1], hr3.keeps.toBelow⟩).1
    by_cases h3 : x.to ≤ last
    · refine seg cfg88_ok mixed PanicFree.body 1000 [true, true] [(16, false), (22, true)] h2 (by first | trivial | exact HpRep.nil | assumption) (by kernel_rfl) fun s_ hs_ => ?_
      simp (maxSteps := 10000000) [SX.vc, SX.stop, SX.contS, SX.contB, SX.sxStep, SX.stepPure, SX.stepNew, SX.stepStore, SX.guardIx, SX.evOp, SX.opd, SX.look, SX.putS, SX.gobs, SX.AllP, SX.leave, SX.lookB, SX.lookT, SX.evBin, SX.evInt, SX.evLoad, SX.shapeUp, SX.evFieldAddr, SX.evIndexAddr, SX.cellsV, SX.evNew, SX.evStore, SX.spliceL, SX.SV.cells, SX.evPick, SX.cnd, SX.TD.isAgg, SX.NotAgg, Go.Value.cells, Go.undef, cfg88, spnC, hx, h1, h3]
      refine ⟨by (unfold SX.Ob; first | trivial | omega | ((try simp only [SX.inK]); (try simp [SX.den, SX.IsU8, SX.AllP, *]); (try omega))), ?_⟩
      intro a3 w3 hr3 _
      exact post_retn (end1 hr3 rfl rfl ⟨by rw [hbad fun h => by have := h.2.1; omega], hr3.keeps.toBelow⟩).1
    refine seg cfg88_ok mixed PanicFree.body 1000 [true] [(16, false), (22, false)] h2 (by first | trivial | exact HpRep.nil | assumption) (by kernel_rfl) fun s_ hs_ => ?_
    simp (maxSteps := 10000000) [SX.vc, SX.stop, SX.contS, SX.contB, SX.sxStep, SX.stepPure, SX.stepNew, SX.stepStore, SX.guardIx, SX.evOp, SX.opd, SX.look, SX.putS, SX.gobs, SX.AllP, SX.leave, SX.lookB, SX.lookT, SX.evBin, SX.evInt, SX.evLoad, SX.shapeUp, SX.evFieldAddr, SX.evIndexAddr, SX.cellsV, SX.evNew, SX.evStore, SX.spliceL, SX.SV.cells, SX.evPick, SX.cnd, SX.TD.isAgg, SX.NotAgg, Go.Value.cells, cfg88, spnC, hx, h1, h3]
    refine ⟨by (unfold SX.Ob; first | trivial | omega | ((try simp only [SX.inK]); (try simp [SX.den, SX.IsU8, SX.AllP, *]); (try omega))), ?_⟩
    intro a3 w3 hr3 _
    refine post_call 73 [.v (.int .i64 x.ow), .v (.int .i64 x.ep)] hr3 (by first | exact wanted_none rfl | exact wanted_zero (hr3.env.same rfl rfl rfl rfl) rfl (by simp) | exact wanted_zero (hr3.env.same rfl rfl rfl rfl) rfl (by simp [*])) rfl (callable 73 Try.func73) (may_ok w3 x.ow x.ep) ?_
    rintro e4 w4 ⟨rfl, hb4⟩
    refine ⟨_, rfl, ?_⟩
    have h4 := hr3.ret hb4 27 (.v (.bool (decide (MayO x.ow x.ep)))) rfl _ (hr3.all.below hb4) (by simp) rfl
    by_cases hM : MayO x.ow x.ep
    rotate_left
    · refine seg cfg88_ok mixed PanicFree.body 1000 [true] [(16, false), (22, false)] h4 (by first | trivial | exact HpRep.nil | assumption) (by kernel_rfl) fun s_ hs_ => ?_
      simp (maxSteps := 10000000) [SX.vc, SX.stop, SX.contS, SX.contB, SX.sxStep, SX.stepPure, SX.guardIx, SX.evOp, SX.opd, SX.look, SX.putS, SX.gobs, SX.AllP, SX.leave, SX.lookB, SX.evUn, SX.evPick, SX.cnd, cfg88, hM]
      refine ⟨by (unfold SX.Ob; first | trivial | omega | ((try simp only [SX.inK]); (try simp [SX.den, SX.IsU8, SX.AllP, *]); (try omega))), ?_⟩
      intro a5 w5 hr5 _
      exact post_retn (end1 hr5 rfl rfl ⟨by rw [hbad fun h => hM h.2.2], hr5.keeps.toBelow⟩).1
    refine seg cfg88_ok mixed PanicFree.body 1000 [false] [(16, false), (22, false)] h4 (by first | trivial | exact HpRep.nil | assumption) (by kernel_rfl) fun s_ hs_ => ?_
    simp (maxSteps := 10000000) [SX.vc, SX.stop, SX.contS, SX.contB, SX.sxStep, SX.stepPure, SX.guardIx, SX.evOp, SX.opd, SX.look, SX.putS, SX.gobs, SX.AllP, SX.leave, SX.lookB, SX.lookT, SX.evBin, SX.evInt, SX.arith, SX.evLoad, SX.shapeUp, SX.evFieldAddr, SX.evUn, SX.evPick, SX.cnd, SX.TD.isAgg, cfg88, hM]
    refine ⟨by (unfold SX.Ob; first | trivial | omega | ((try simp only [SX.inK]); (try simp [SX.den, SX.IsU8, SX.AllP, *]); (try omega))), ?_⟩
    intro a5 w5 hr5 _
    exact post_rnd (L.length - (k + 1)) (by omega) ⟨k + 1, x.to, rfl, by omega, hi.trans ⟨fun h => h.2.2.2, fun h => ⟨h1, by omega, hM, h⟩⟩, he, hr5.re (by simp [envTo, SX.look, den]) trivial rfl rfl⟩
  · obtain rfl : k = L.length := by omega
    simp only [List.drop_length, ChkS, endS, iff_true] at hi he
    by_cases h0 : last = 0
    · refine seg cfg88_ok mixed PanicFree.body 1000 [false, true] [(35, true)] hr2 (by first | trivial | exact HpRep.nil | assumption) (by kernel_rfl) fun s_ hs_ => ?_
      simp (maxSteps := 10000000) [SX.vc, SX.stop, SX.contS, SX.contB, SX.contW, SX.sxStep, SX.stepPure, SX.guardIx, SX.evOp, SX.opd, SX.look, SX.putS, SX.gobs, SX.AllP, SX.leave, SX.lookB, SX.evBin, SX.evInt, SX.evPick, SX.popTo, SX.cnd, Go.undef, cfg88, h0]
      refine ⟨by (unfold SX.Ob; first | trivial | omega | ((try simp only [SX.inK]); (try simp [SX.den, SX.IsU8, SX.AllP, *]); (try omega))), ?_⟩
      intro a3 w3 hr3 _
      have hc : chkP L = 1 := if_neg fun h => by have := h.2.1; omega
      exact post_retn (end1 hr3 rfl rfl ⟨by rw [hc], hr3.keeps.toBelow⟩).1
    by_cases h1 : 1099511627776 < last
    · refine seg cfg88_ok mixed PanicFree.body 1000 [false, true] [(35, false)] hr2 (by first | trivial | exact HpRep.nil | assumption) (by kernel_rfl) fun s_ hs_ => ?_
      simp (maxSteps := 10000000) [SX.vc, SX.stop, SX.contS, SX.contB, SX.contW, SX.sxStep, SX.stepPure, SX.guardIx, SX.evOp, SX.opd, SX.look, SX.putS, SX.gobs, SX.AllP, SX.leave, SX.lookB, SX.evBin, SX.evInt, SX.evPick, SX.popTo, SX.cnd, cfg88, h0, h1]
      refine ⟨by (unfold SX.Ob; first | trivial | omega | ((try simp only [SX.inK]); (try simp [SX.den, SX.IsU8, SX.AllP, *]); (try omega))), ?_⟩
      intro a3 w3 hr3 _
      have hc : chkP L = 1 := if_neg fun h => by have := h.2.2; omega
      exact post_retn (end1 hr3 rfl rfl ⟨by rw [hc], hr3.keeps.toBelow⟩).1
    refine seg cfg88_ok mixed PanicFree.body 1000 [false, false] [(35, false)] hr2 (by first | trivial | exact HpRep.nil | assumption) (by kernel_rfl) fun s_ hs_ => ?_
    simp (maxSteps := 10000000) [SX.vc, SX.stop, SX.contS, SX.contB, SX.contW, SX.sxStep, SX.stepPure, SX.guardIx, SX.evOp, SX.opd, SX.look, SX.putS, SX.gobs, SX.AllP, SX.leave, SX.lookB, SX.evBin, SX.evInt, SX.evPick, SX.popTo, SX.cnd, cfg88, h0, h1]
    refine ⟨by (unfold SX.Ob; first | trivial | omega | ((try simp only [SX.inK]); (try simp [SX.den, SX.IsU8, SX.AllP, *]); (try omega))), ?_⟩
    intro a3 w3 hr3 _
    have hc : chkP L = 0 := if_pos ⟨hi, by have := endS_le L 0 hi; omega, by omega⟩
    exact post_retn (end1 hr3 rfl rfl ⟨by rw [hc], hr3.keeps.toBelow⟩).1
end Go.Proofs.S7
namespace Go.Proofs.S7
open Go Go.Proofs Go.SX Go.RowKit
def ChkR (last : Int) : List Spn → Prop
  | [] => True
  | s :: r => s.fr = last ∧ s.fr < s.to ∧ s.to ≤ 1099511627776 ∧ MayO s.ow s.ep ∧ ChkR s.to r
instance : ∀ (last : Int) (L : List Spn), Decidable (ChkR last L)
  | _, [] => isTrue trivial
  | last, e :: r => by
    unfold ChkR
    have := instDecidableChkR e.to r
    infer_instance
theorem chkR_iff : ∀ (L : List Spn) (last : Int), last ≤ 1099511627776 → (ChkR last L ↔ ChkS last L ∧ endS last L ≤ 1099511627776)
  | [], last, h => by simp [ChkR, ChkS, endS, h]
  | s :: r, last, h => by
    simp only [ChkR, ChkS, endS]
    constructor
    · rintro ⟨h1, h2, h3, h4, h5⟩
      have := (chkR_iff r s.to h3).1 h5
      exact ⟨⟨h1, h2, h4, this.1⟩, this.2⟩
    · rintro ⟨⟨h1, h2, h4, h5⟩, h6⟩
      have := endS_le r s.to h5
      have h3 : s.to ≤ 1099511627776 := by omega
      exact ⟨h1, h2, h3, h4, (chkR_iff r s.to h3).2 ⟨h5, h6⟩⟩
theorem chkP_iff (L : List Spn) : ChkP L ↔ L ≠ [] ∧ ChkR 0 L := by
  rw [chkR_iff L 0 (by omega)]
  unfold ChkP
  rcases L with _ | ⟨s, r⟩
  · simp [endS]
  · constructor
    · rintro ⟨h1, h2, h3⟩
      exact ⟨by simp, h1, h3⟩
    · rintro ⟨_, h1, h3⟩
      refine ⟨h1, ?_, h3⟩
      have h4 := endS_le r s.to h1.2.2.2
      have h5 := h1.1
      have h6 := h1.2.1
      simp only [endS]
      omega
end Go.Proofs.S7
namespace Go.Proofs.S7
open Go Go.Proofs Go.SX Go.RowKit
def InS (b : Int) (s : Spn) : Prop := s.fr ≤ b ∧ b < s.to
instance (b : Int) (s : Spn) : Decidable (InS b s) := by unfold InS; infer_instance
set_option maxRecDepth 100000 in
set_option maxHeartbeats 8000000 in
theorem find1_ok (w : World) (x : Spn) (lba : Int) (c : Nat) (hc : (SO.cells [.v (.int .i64 lba)] 3).rep w c) : Calls Try.prog 89 (denL [.ag (spnC x), .ptr 0 c 0]).toArray w (Ret w (.v (.bool (decide (InS lba x))))) := by
  refine enter (F := frame0 w) Try.func89 rfl [.ag (spnC x), .ptr 0 c 0] [(c, false, .cells [.v (.int .i64 lba)] 3)] (by simp [Try.f89]) (HpAll.one hc) (keeps0 w) fun a hr => ?_
  by_cases h : x.fr ≤ lba
  · refine seg cfg89_ok mixed PanicFree.body 1000 [] [(8, true)] hr (by first | trivial | exact HpRep.nil | assumption) (by kernel_rfl) fun s_ hs_ => ?_
    simp (maxSteps := 10000000) [SX.vc, SX.stop, SX.contS, SX.sxStep, SX.stepPure, SX.stepNew, SX.guardIx, SX.evOp, SX.opd, SX.look, SX.putS, SX.gobs, SX.AllP, SX.leave, SX.lookB, SX.lookT, SX.evBin, SX.evInt, SX.evLoad, SX.shapeUp, SX.evFieldAddr, SX.evNew, SX.SV.cells, SX.evPick, SX.cnd, SX.env0, SX.TD.isAgg, Go.undef, cfg89, Try.f89, spnC, h]
    refine ⟨by (unfold SX.Ob; first | trivial | omega | ((try simp only [SX.inK]); (try simp [SX.den, SX.IsU8, SX.AllP, *]); (try omega))), ?_⟩
    intro a1 w1 hr1 _
    refine post_retn (end1 hr1 rfl rfl ⟨ret_dec ?_, hr1.keeps.toBelow⟩).1
    simp [InS, h]
  · refine seg cfg89_ok mixed PanicFree.body 1000 [] [(8, false)] hr (by first | trivial | exact HpRep.nil | assumption) (by kernel_rfl) fun s_ hs_ => ?_
    simp (maxSteps := 10000000) [SX.vc, SX.stop, SX.contS, SX.sxStep, SX.stepPure, SX.stepNew, SX.guardIx, SX.evOp, SX.opd, SX.look, SX.putS, SX.gobs, SX.AllP, SX.leave, SX.lookB, SX.lookT, SX.evBin, SX.evInt, SX.evLoad, SX.shapeUp, SX.evFieldAddr, SX.evNew, SX.SV.cells, SX.evPick, SX.cnd, SX.env0, SX.TD.isAgg, Go.undef, cfg89, Try.f89, spnC, h]
    refine ⟨by (unfold SX.Ob; first | trivial | omega | ((try simp only [SX.inK]); (try simp [SX.den, SX.IsU8, SX.AllP, *]); (try omega))), ?_⟩
    intro a1 w1 hr1 _
    refine post_retn (end1 hr1 rfl rfl ⟨ret_dec ?_, hr1.keeps.toBelow⟩).1
    simp [InS, h]
def FindP (L : List Spn) (b i : Int) : Prop := (∃ k : Nat, i = k ∧ k < L.length ∧ InS b (nth spn0 L k) ∧ ∀ j, j < k → ¬ InS b (nth spn0 L j)) ∨ (i = -1 ∧ ∀ j, j < L.length → ¬ InS b (nth spn0 L j))
def FindR (w : World) (L : List Spn) (b : Int) (e : Ending) (w' : World) : Prop := ∃ i : Int, e = .returned (.int .i64 i) ∧ FindP L b i ∧ Below w.heap.size w w'
def IxLoop (w : World) (v : Value) (L : List Spn) (b : Int) (c : Nat) (m : Nat) (a : Act) (w' : World) : Prop :=
  ∃ k : Nat, m = L.length - k ∧ k ≤ L.length ∧ (∀ j, j < k → ¬ InS b (nth spn0 L j)) ∧ RepX (frame0 w) ⟨[(8, 0, .v (.int .i64 k)), (7, 0, .v (.int .i64 L.length)), (0, 0, .v v), (1, 0, .fn (.func 89) [] [.ptr 0 c 0])], [(c, false, .cells [.v (.int .i64 b)] 3)], 0, 0, 19, [], [], []⟩ a w'
set_option maxRecDepth 100000 in
set_option maxHeartbeats 8000000 in
theorem ix_ok {P : Nat → Prop} (w : World) (v : Value) (L : List Spn) (lba : Int) (c : Nat) (hc : (SO.cells [.v (.int .i64 lba)] 3).rep w c) (hcP : ¬ P c) (hL : RdP P w v L) (hn : L.length ≤ 1000000000000000) : Calls Try.prog 72 (denL [.v v, .fn (.func 89) [] [.ptr 0 c 0]]).toArray w (FindR w L lba) := by
  obtain ⟨ad, cp, rfl⟩ := hL.slice
  refine enter (F := frame0 w) Try.func72 rfl [.v (.slice ad L.length cp), .fn (.func 89) [] [.ptr 0 c 0]] [(c, false, .cells [.v (.int .i64 lba)] 3)] (by simp [Try.f72]) (HpAll.one hc) (keeps0 w) fun a hr => ?_
  refine seg cfg72_ok mixed PanicFree.body 1000 [] [] hr (by first | trivial | exact HpRep.nil | assumption) (by kernel_rfl) fun s_ hs_ => ?_
  simp (maxSteps := 10000000) [SX.vc, SX.stop, SX.contS, SX.sxStep, SX.stepPure, SX.guardIx, SX.evOp, SX.opd, SX.opds, SX.look, SX.putS, SX.gobs, SX.AllP, SX.leave, SX.lookT, SX.evBuiltin, SX.env0, cfg72, Try.f72]
  refine ⟨by (unfold SX.Ob; first | trivial | omega | ((try simp only [SX.inK]); (try simp [SX.den, SX.IsU8, SX.AllP, *]); (try omega))), ?_⟩
  intro a1 w1 hr1 _
  refine post_loop (IxLoop w (.slice ad L.length cp) L lba c) L.length ⟨0, rfl, by omega, by omega, hr1.re (by simp [envTo, SX.look]) hr1.all rfl rfl⟩ ?_
  rintro m a2 w2 ⟨k, rfl, hk, hs, hr2⟩
  by_cases hlt : k < L.length
  · obtain ⟨b, o0, cap, u, fz, hP, hv, hrep⟩ := hL.opn hlt
    cases hv
    have hrep2 := SO.rep_same hrep (hr2.keeps.toBelow.block _ (SO.rep_lt hrep))
    have hcb : c ≠ b := fun h => hcP (h ▸ hP)
    obtain ⟨x, hx⟩ : ∃ x, nth spn0 L k = x := ⟨_, rfl⟩
    have hA2 : HpAll (frame0 w) w2 [(c, false, .cells [.v (.int .i64 lba)] 3), (b, false, .arr o0 L.length (fun j => spnC (nth spn0 L j)) 4 u fz)] :=
      ⟨⟨hr2.all.1.1, by simp, fun e he => by simp at he; subst he; exact hcb⟩, HpAll.one hrep2⟩
    have h2 := (hr2.top 0 (.sl 1 b o0 0 L.length cp 4) rfl (by simp [den])).see _ hA2
    refine seg cfg72_ok mixed PanicFree.body 1000 [true] [] h2 (by first | trivial | exact HpRep.nil | assumption) (by kernel_rfl) fun s_ hs_ => ?_
    simp (maxSteps := 10000000) [SX.vc, SX.stop, SX.contS, SX.contB, SX.sxStep, SX.stepPure, SX.stepNew, SX.stepStore, SX.guardIx, SX.evOp, SX.opd, SX.look, SX.putS, SX.gobs, SX.AllP, SX.leave, SX.lookT, SX.evBin, SX.evInt, SX.evLoad, SX.shapeUp, SX.evIndexAddr, SX.evNew, SX.evStore, SX.TD.isAgg, cfg72, spnC, hx]
    refine ⟨by (unfold SX.Ob; first | trivial | omega | ((try simp only [SX.inK]); (try simp [SX.den, SX.IsU8, SX.AllP, *]); (try omega))), ?_⟩
    intro a3 w3 hr3 _
    refine post_call 89 [.ag (spnC x), .ptr 0 c 0] hr3 (by first | exact wanted_none rfl | exact wanted_zero (hr3.env.same rfl rfl rfl rfl) rfl (by simp) | exact wanted_zero (hr3.env.same rfl rfl rfl rfl) rfl (by simp [*])) rfl (callable 89 Try.func89) (find1_ok w3 x lba c hr3.all.1.1) ?_
    rintro e4 w4 ⟨rfl, hb4⟩
    refine ⟨_, rfl, ?_⟩
    have h4 := hr3.ret hb4 16 (.v (.bool (decide (InS lba x)))) rfl _ (hr3.all.below hb4) (by simp) rfl
    by_cases hM : InS lba x
    · refine seg cfg72_ok mixed PanicFree.body 1000 [true] [] h4 (by first | trivial | exact HpRep.nil | assumption) (by kernel_rfl) fun s_ hs_ => ?_
      simp (maxSteps := 10000000) [SX.vc, SX.stop, SX.contS, SX.contB, SX.sxStep, SX.stepPure, SX.guardIx, SX.evOp, SX.opd, SX.look, SX.putS, SX.gobs, SX.AllP, SX.leave, SX.evBin, SX.evInt, SX.arith, cfg72, hM]
      refine ⟨by (unfold SX.Ob; first | trivial | omega | ((try simp only [SX.inK]); (try simp [SX.den, SX.IsU8, SX.AllP, *]); (try omega))), ?_⟩
      intro a5 w5 hr5 _
      exact post_retn (end1 hr5 rfl rfl ⟨k, rfl, .inl ⟨k, rfl, hlt, hx ▸ hM, hs⟩, hr5.keeps.toBelow⟩).1
    · refine seg cfg72_ok mixed PanicFree.body 1000 [false] [] h4 (by first | trivial | exact HpRep.nil | assumption) (by kernel_rfl) fun s_ hs_ => ?_
      simp (maxSteps := 10000000) [SX.vc, SX.stop, SX.contS, SX.contB, SX.sxStep, SX.stepPure, SX.guardIx, SX.evOp, SX.opd, SX.look, SX.putS, SX.gobs, SX.AllP, SX.leave, SX.evBin, SX.evInt, SX.arith, cfg72, hM]
      refine ⟨by (unfold SX.Ob; first | trivial | omega | ((try simp only [SX.inK]); (try simp [SX.den, SX.IsU8, SX.AllP, *]); (try omega))), ?_⟩
      intro a5 w5 hr5 _
      exact post_rnd (L.length - (k + 1)) (by omega) ⟨k + 1, rfl, hlt, fun j hj => (by
        rcases Nat.lt_or_ge j k with h | h
        · exact hs j h
        · obtain rfl : j = k := by omega
          rw [hx]; exact hM), hr5.re (by simp [envTo, SX.look, den]) (hr5.all.take 1) rfl rfl⟩
  · obtain rfl : k = L.length := by omega
    refine seg cfg72_ok mixed PanicFree.body 1000 [false] [] hr2 (by first | trivial | exact HpRep.nil | assumption) (by kernel_rfl) fun s_ hs_ => ?_
    simp (maxSteps := 10000000) [SX.vc, SX.stop, SX.contS, SX.contB, SX.contW, SX.sxStep, SX.stepPure, SX.guardIx, SX.evOp, SX.opd, SX.look, SX.putS, SX.gobs, SX.AllP, SX.leave, SX.evBin, SX.evInt, SX.popTo, cfg72]
    refine ⟨by (unfold SX.Ob; first | trivial | omega | ((try simp only [SX.inK]); (try simp [SX.den, SX.IsU8, SX.AllP, *]); (try omega))), ?_⟩
    intro a3 w3 hr3 _
    exact post_retn (end1 hr3 rfl rfl ⟨-1, rfl, .inr ⟨rfl, hs⟩, hr3.keeps.toBelow⟩).1
end Go.Proofs.S7
namespace Go.Proofs.S7
open Go Go.Proofs Go.SX Go.RowKit
set_option maxRecDepth 100000 in
set_option maxHeartbeats 8000000 in
theorem find_ok {P : Nat → Prop} (w : World) (v : Value) (L : List Spn) (lba : Int) (hL : RdP P w v L) (hn : L.length ≤ 1000000000000000) : Calls Try.prog 71 (denL [.v v, .v (.int .i64 lba)]).toArray w (FindR w L lba) := by
  obtain ⟨ad, cp, rfl⟩ := hL.slice
  refine enter (F := frame0 w) Try.func71 rfl [.v (.slice ad L.length cp), .v (.int .i64 lba)] [] (by simp [Try.f71]) trivial (keeps0 w) fun a hr => ?_
  refine seg cfg71_ok mixed PanicFree.body 1000 [] [] hr (by first | trivial | exact HpRep.nil | assumption) (by kernel_rfl) fun sB hsB => ?_
  simp (maxSteps := 10000000) [SX.vc, SX.stop, SX.contS, SX.sxStep, SX.stepPure, SX.stepNew, SX.stepStore, SX.guardIx, SX.evOp, SX.opd, SX.opds, SX.look, SX.putS, SX.gobs, SX.AllP, SX.leave, SX.evNew, SX.evStore, SX.SV.cells, SX.env0, cfg71, Try.f71]
  refine ⟨by (unfold SX.Ob; first | trivial | omega | ((try simp only [SX.inK]); (try simp [SX.den, SX.IsU8, SX.AllP, *]); (try omega))), ?_⟩
  intro a1 w1 hr1 _
  have hL1 := (hL.mono (P' := fun x => x < w.heap.size) fun x h _ => h).below hr1.keeps.toBelow
  have hc := hr1.all.1.1
  refine post_call 72 [.v (.slice ad L.length cp), .fn (.func 89) [] [.ptr 0 sB 0]] hr1 (by first | exact wanted_none rfl | exact wanted_zero (hr1.env.same rfl rfl rfl rfl) rfl (by simp) | exact wanted_zero (hr1.env.same rfl rfl rfl rfl) rfl (by simp [*])) rfl (callable 72 Try.func72) (ix_ok w1 _ L lba sB hc (by omega) hL1 hn) ?_
  rintro e2 w2 ⟨i, rfl, hi, hb2⟩
  refine ⟨_, rfl, ?_⟩
  have h2 := hr1.ret hb2 7 (.v (.int .i64 i)) rfl _ (hr1.all.below hb2) (by simp) rfl
  refine seg cfg71_ok mixed PanicFree.body 1000 [] [] h2 (by first | trivial | exact HpRep.nil | assumption) (by kernel_rfl) fun s_ hs_ => ?_
  simp (maxSteps := 10000000) [SX.vc, SX.stop, SX.contS, SX.sxStep, SX.stepPure, SX.guardIx, SX.evOp, SX.opd, SX.look, SX.putS, SX.gobs, SX.AllP, SX.leave, cfg71]
  refine ⟨by (unfold SX.Ob; first | trivial | omega | ((try simp only [SX.inK]); (try simp [SX.den, SX.IsU8, SX.AllP, *]); (try omega))), ?_⟩
  intro a3 w3 hr3 _
  exact post_retn (end1 hr3 rfl rfl ⟨i, rfl, hi, hr3.keeps.toBelow⟩).1
end Go.Proofs.S7
namespace Go.Proofs.S7
open Go Go.Proofs Go.SX Go.RowKit
theorem endS_nth : ∀ (L : List Spn) (last : Int) (k : Nat), L.length = k + 1 → endS last L = (nth spn0 L k).to
  | [], _, k, h => by simp at h
  | [s], _, k, h => by
    obtain rfl : k = 0 := by simpa using h.symm
    rfl
  | s :: t :: r, last, k, h => by
    obtain ⟨k', rfl⟩ : ∃ k', k = k' + 1 := ⟨k - 1, by simp at h; omega⟩
    have := endS_nth (t :: r) s.to k' (by simpa using h)
    simp only [endS] at this ⊢
    rw [this]
    simp [nth]
theorem ChkP.ne {L : List Spn} (h : ChkP L) : 0 < L.length := List.length_pos_iff.2 ((chkP_iff L).1 h).1
def Within (L : List Spn) (from_ to : Int) : Prop := ChkP L ∧ 0 ≤ from_ ∧ from_ < to ∧ to ≤ endS 0 L
instance (L : List Spn) (from_ to : Int) : Decidable (Within L from_ to) := by unfold Within; infer_instance
set_option maxRecDepth 100000 in
set_option maxHeartbeats 8000000 in
theorem within_ok {P : Nat → Prop} (w : World) (v : Value) (L : List Spn) (fr to : Int) (hL : RdP P w v L) (hn : L.length ≤ 1000000000000000) : Calls Try.prog 70 (denL [.v v, .v (.int .i64 fr), .v (.int .i64 to)]).toArray w (Ret w (.v (.bool (decide (Within L fr to))))) := by
  obtain ⟨ad, cp, rfl⟩ := hL.slice
  refine enter (F := frame0 w) Try.func70 rfl [.v (.slice ad L.length cp), .v (.int .i64 fr), .v (.int .i64 to)] [] (by simp [Try.f70]) trivial (keeps0 w) fun a hr => ?_
  refine seg cfg70_ok mixed PanicFree.body 1000 [] [] hr (by first | trivial | exact HpRep.nil | assumption) (by kernel_rfl) fun s_ hs_ => ?_
  simp (maxSteps := 10000000) [SX.vc, SX.stop, SX.contS, SX.sxStep, SX.stepPure, SX.stepNew, SX.stepStore, SX.guardIx, SX.evOp, SX.opd, SX.look, SX.putS, SX.gobs, SX.AllP, SX.leave, SX.evNew, SX.evStore, SX.env0, cfg70, Try.f70]
  refine ⟨by (unfold SX.Ob; first | trivial | omega | ((try simp only [SX.inK]); (try simp [SX.den, SX.IsU8, SX.AllP, *]); (try omega))), ?_⟩
  intro a1 w1 hr1 _
  refine post_call 88 [.v (.slice ad L.length cp)] hr1 (by first | exact wanted_none rfl | exact wanted_zero (hr1.env.same rfl rfl rfl rfl) rfl (by simp) | exact wanted_zero (hr1.env.same rfl rfl rfl rfl) rfl (by simp [*])) rfl (callable 88 Try.func88) (check_ok w1 _ L (hL.below hr1.keeps.toBelow) hn) ?_
  rintro e2 w2 ⟨rfl, hb2⟩
  refine ⟨_, rfl, ?_⟩
  have h2 := hr1.ret hb2 8 (.v (.int .i64 (chkP L))) rfl _ (hr1.all.below hb2) (by simp) rfl
  by_cases hC : ChkP L
  rotate_left
  · have hc : chkP L = 1 := if_neg hC
    refine seg cfg70_ok mixed PanicFree.body 1000 [] [(10, false), (14, false), (19, false)] h2 (by first | trivial | exact HpRep.nil | assumption) (by kernel_rfl) fun s_ hs_ => ?_
    simp (maxSteps := 10000000) [SX.vc, SX.stop, SX.contS, SX.sxStep, SX.stepPure, SX.guardIx, SX.evOp, SX.opd, SX.look, SX.putS, SX.gobs, SX.AllP, SX.leave, SX.lookB, SX.evBin, SX.evInt, SX.evPick, SX.cnd, Go.undef, cfg70, hc]
    refine ⟨by (unfold SX.Ob; first | trivial | omega | ((try simp only [SX.inK]); (try simp [SX.den, SX.IsU8, SX.AllP, *]); (try omega))), ?_⟩
    intro a3 w3 hr3 _
    exact post_retn (end1 hr3 rfl rfl ⟨ret_dec (by simp [Within, hC]), hr3.keeps.toBelow⟩).1
  have hc : chkP L = 0 := if_pos hC
  by_cases h1 : 0 ≤ fr
  rotate_left
  · refine seg cfg70_ok mixed PanicFree.body 1000 [] [(10, true), (14, false), (19, false)] h2 (by first | trivial | exact HpRep.nil | assumption) (by kernel_rfl) fun s_ hs_ => ?_
    simp (maxSteps := 10000000) [SX.vc, SX.stop, SX.contS, SX.sxStep, SX.stepPure, SX.guardIx, SX.evOp, SX.opd, SX.look, SX.putS, SX.gobs, SX.AllP, SX.leave, SX.lookB, SX.evBin, SX.evInt, SX.evPick, SX.cnd, Go.undef, cfg70, hc, h1]
    refine ⟨by (unfold SX.Ob; first | trivial | omega | ((try simp only [SX.inK]); (try simp [SX.den, SX.IsU8, SX.AllP, *]); (try omega))), ?_⟩
    intro a3 w3 hr3 _
    exact post_retn (end1 hr3 rfl rfl ⟨ret_dec (by simp [Within, h1]), hr3.keeps.toBelow⟩).1
  by_cases h3 : fr < to
  rotate_left
  · refine seg cfg70_ok mixed PanicFree.body 1000 [] [(10, true), (14, true), (19, false)] h2 (by first | trivial | exact HpRep.nil | assumption) (by kernel_rfl) fun s_ hs_ => ?_
    simp (maxSteps := 10000000) [SX.vc, SX.stop, SX.contS, SX.sxStep, SX.stepPure, SX.guardIx, SX.evOp, SX.opd, SX.look, SX.putS, SX.gobs, SX.AllP, SX.leave, SX.lookB, SX.evBin, SX.evInt, SX.evPick, SX.cnd, Go.undef, cfg70, hc, h1, h3]
    refine ⟨by (unfold SX.Ob; first | trivial | omega | ((try simp only [SX.inK]); (try simp [SX.den, SX.IsU8, SX.AllP, *]); (try omega))), ?_⟩
    intro a3 w3 hr3 _
    exact post_retn (end1 hr3 rfl rfl ⟨ret_dec (by simp [Within, h3]), hr3.keeps.toBelow⟩).1
  obtain ⟨k, hk⟩ : ∃ k, L.length = k + 1 := ⟨L.length - 1, by have := hC.ne; omega⟩
  have hlt : k < L.length := by omega
  obtain ⟨b, o0, cap, u, fz, hP, hv, hrep⟩ := hL.opn hlt
  cases hv
  have hrep2 := SO.rep_same hrep (h2.keeps.toBelow.block _ (SO.rep_lt hrep))
  obtain ⟨x, hx⟩ : ∃ x, nth spn0 L k = x := ⟨_, rfl⟩
  have he := endS_nth L 0 k hk
  rw [hx] at he
  have hk2 : (L.length : Int) - 1 = (k : Int) := by omega
  have h5 := (h2.top 0 (.sl 0 b o0 0 L.length cp 4) rfl (by simp [den])).see _ (HpAll.one hrep2)
  refine seg cfg70_ok mixed PanicFree.body 1000 [] [(10, true), (14, true), (19, true)] h5 (by first | trivial | exact HpRep.nil | assumption) (by kernel_rfl) fun s_ hs_ => ?_
  simp (maxSteps := 10000000) [SX.vc, SX.stop, SX.contS, SX.sxStep, SX.stepPure, SX.guardIx, SX.evOp, SX.opd, SX.opds, SX.look, SX.putS, SX.gobs, SX.AllP, SX.leave, SX.lookB, SX.lookT, SX.evBuiltin, SX.evBin, SX.evInt, SX.arith, SX.evLoad, SX.shapeUp, SX.evFieldAddr, SX.evIndexAddr, SX.evPick, SX.cnd, SX.TD.isAgg, cfg70, hc, h1, h3, spnC, hk2, hx]
  refine ⟨by (unfold SX.Ob; first | trivial | omega | ((try simp only [SX.inK]); (try simp [SX.den, SX.IsU8, SX.AllP, *]); (try omega))), ?_⟩
  intro a6 w6 hr6 _
  refine post_retn (end1 hr6 rfl rfl ⟨ret_dec ?_, hr6.keeps.toBelow⟩).1
  simp [Within, hC, h1, h3, he]
end Go.Proofs.S7
namespace Go.Proofs.S7
open Go Go.Proofs Go.SX Go.RowKit
def HasS (L : List Spn) (b : Int) (t : Int × Int) : Prop := ∃ s ∈ L, InS b s ∧ (s.ow, s.ep) = t
theorem HasS.append {L M : List Spn} {b : Int} {t : Int × Int} : HasS (L ++ M) b t ↔ HasS L b t ∨ HasS M b t := by
  unfold HasS
  constructor
  · rintro ⟨s, hs, h⟩
    rcases List.mem_append.1 hs with h' | h'
    · exact .inl ⟨s, h', h⟩
    · exact .inr ⟨s, h', h⟩
  · rintro (⟨s, hs, h⟩ | ⟨s, hs, h⟩)
    · exact ⟨s, List.mem_append.2 (.inl hs), h⟩
    · exact ⟨s, List.mem_append.2 (.inr hs), h⟩
theorem HasS.one {s : Spn} {b : Int} {t : Int × Int} : HasS [s] b t ↔ InS b s ∧ (s.ow, s.ep) = t := by
  simp [HasS]
def stepS (o : List Spn) (e : Spn) : List Spn :=
  match o.getLast? with
  | some y => if y.ow = e.ow ∧ y.ep = e.ep then o.dropLast ++ [{ y with to := e.to }] else o ++ [e]
  | none => [e]
def joinGoS (o : List Spn) : List Spn → List Spn
  | [] => o
  | e :: r => joinGoS (stepS o e) r
def joinS (L : List Spn) : List Spn := joinGoS [] L
theorem stepS_nil (e : Spn) : stepS [] e = [e] := rfl
theorem stepS_concat (o : List Spn) (y e : Spn) : stepS (o ++ [y]) e = if y.ow = e.ow ∧ y.ep = e.ep then o ++ [{ y with to := e.to }] else o ++ [y] ++ [e] := by
  simp [stepS]
theorem chkS_append : ∀ (A B : List Spn) (last : Int), ChkS last (A ++ B) ↔ ChkS last A ∧ ChkS (endS last A) B
  | [], B, last => by simp [ChkS, endS]
  | s :: r, B, last => by
    simp only [List.cons_append, ChkS, endS, chkS_append r B s.to]
    constructor
    · rintro ⟨h1, h2, h3, h4, h5⟩; exact ⟨⟨h1, h2, h3, h4⟩, h5⟩
    · rintro ⟨⟨h1, h2, h3, h4⟩, h5⟩; exact ⟨h1, h2, h3, h4, h5⟩
theorem endS_append : ∀ (A B : List Spn) (last : Int), endS last (A ++ B) = endS (endS last A) B
  | [], B, last => rfl
  | s :: r, B, last => endS_append r B s.to
theorem step_facts {o : List Spn} {e : Spn} {last : Int} (h : ChkS last (o ++ [e])) :
    ChkS last (stepS o e) ∧ endS last (stepS o e) = e.to ∧ ∀ b t, HasS (stepS o e) b t ↔ HasS (o ++ [e]) b t := by
  rcases List.eq_nil_or_concat o with rfl | ⟨p, y, rfl⟩
  · exact ⟨h, rfl, fun b t => Iff.rfl⟩
  · rw [List.concat_eq_append] at h ⊢
    rw [stepS_concat]
    by_cases hg : y.ow = e.ow ∧ y.ep = e.ep
    · rw [if_pos hg]
      rw [List.append_assoc, chkS_append] at h
      obtain ⟨h1, h2, h3, h4, h5, h6, h7, _⟩ := h
      refine ⟨(chkS_append _ _ _).2 ⟨h1, h2, ?_, h4, trivial⟩, ?_, fun b t => ?_⟩
      · show y.fr < e.to
        omega
      · rw [endS_append]; rfl
      · rw [HasS.append, List.append_assoc, HasS.append, HasS.append, HasS.one, HasS.one, HasS.one]
        refine or_congr Iff.rfl ?_
        unfold InS
        simp only [hg.1, hg.2]
        constructor
        · rintro ⟨⟨a1, a2⟩, a3⟩
          rcases Int.lt_or_le b y.to with h | h
          · exact .inl ⟨⟨a1, h⟩, a3⟩
          · exact .inr ⟨⟨by omega, a2⟩, a3⟩
        · rintro (⟨⟨a1, a2⟩, a3⟩ | ⟨⟨a1, a2⟩, a3⟩)
          · exact ⟨⟨a1, by omega⟩, a3⟩
          · exact ⟨⟨by omega, a2⟩, a3⟩
    · rw [if_neg hg]
      exact ⟨h, by rw [endS_append]; rfl, fun b t => Iff.rfl⟩
theorem joinGo_facts : ∀ (L o : List Spn) (last : Int), ChkS last (o ++ L) →
    ChkS last (joinGoS o L) ∧ endS last (joinGoS o L) = endS last (o ++ L) ∧ ∀ b t, HasS (joinGoS o L) b t ↔ HasS (o ++ L) b t
  | [], o, last, h => by
    rw [List.append_nil] at h ⊢
    exact ⟨h, rfl, fun b t => Iff.rfl⟩
  | e :: r, o, last, h => by
    have e1 : o ++ e :: r = (o ++ [e]) ++ r := by simp
    rw [e1] at h ⊢
    have h2 := (chkS_append _ _ _).1 h
    obtain ⟨s1, s2, s3⟩ := step_facts h2.1
    have e2 : endS last (o ++ [e]) = e.to := by rw [endS_append]; rfl
    have h3 : ChkS last (stepS o e ++ r) := (chkS_append _ _ _).2 ⟨s1, by rw [s2, ← e2]; exact h2.2⟩
    obtain ⟨j1, j2, j3⟩ := joinGo_facts r (stepS o e) last h3
    refine ⟨j1, ?_, fun b t => ?_⟩
    · show endS last (joinGoS (stepS o e) r) = _
      rw [j2, endS_append, endS_append, s2, e2]
    · show HasS (joinGoS (stepS o e) r) b t ↔ _
      rw [j3, HasS.append, HasS.append, s3]
theorem join_facts {L : List Spn} (h : ChkP L) : ChkP (joinS L) ∧ endS 0 (joinS L) = endS 0 L ∧ ∀ b t, HasS (joinS L) b t ↔ HasS L b t := by
  obtain ⟨j1, j2, j3⟩ := joinGo_facts L [] 0 h.1
  exact ⟨⟨j1, by rw [show joinS L = joinGoS [] L from rfl, j2]; exact h.2.1, by rw [show joinS L = joinGoS [] L from rfl, j2]; exact h.2.2⟩, j2, j3⟩
def LikeS (a b : Spn) : Prop := a.ow = b.ow ∧ a.ep = b.ep
def NoGoL : List Spn → Prop
  | [] => True
  | [_] => True
  | x :: y :: r => ¬ LikeS x y ∧ NoGoL (y :: r)
theorem noGoL_concat : ∀ (o : List Spn) (y : Spn), NoGoL (o ++ [y]) ↔ NoGoL o ∧ ∀ p, o.getLast? = some p → ¬ LikeS p y
  | [], y => by simp [NoGoL]
  | [x], y => by simp [NoGoL]
  | x :: z :: r, y => by
    have ih := noGoL_concat (z :: r) y
    simp only [List.cons_append] at ih ⊢
    show ¬ LikeS x z ∧ NoGoL (z :: (r ++ [y])) ↔ (¬ LikeS x z ∧ NoGoL (z :: r)) ∧ _
    rw [ih]
    simp only [List.getLast?_cons_cons]
    exact ⟨fun h => ⟨⟨h.1, h.2.1⟩, h.2.2⟩, fun h => ⟨h.1.1, h.1.2, h.2⟩⟩
theorem step_noGo {o : List Spn} {e : Spn} (h : NoGoL o) : NoGoL (stepS o e) := by
  rcases List.eq_nil_or_concat o with rfl | ⟨p, y, rfl⟩
  · trivial
  · rw [List.concat_eq_append] at h ⊢
    rw [stepS_concat]
    by_cases hg : y.ow = e.ow ∧ y.ep = e.ep
    · rw [if_pos hg, noGoL_concat]
      rw [noGoL_concat] at h
      exact h
    · rw [if_neg hg, noGoL_concat]
      exact ⟨h, fun p hp => by simp at hp; subst hp; exact hg⟩
theorem join_noGo : ∀ (L o : List Spn), NoGoL o → NoGoL (joinGoS o L)
  | [], _, h => h
  | e :: r, o, h => join_noGo r (stepS o e) (step_noGo h)
end Go.Proofs.S7
namespace Go.Proofs.S7
open Go Go.Proofs Go.SX Go.RowKit
theorem hasS_cons {s : Spn} {r : List Spn} {b : Int} {t : Int × Int} : HasS (s :: r) b t ↔ (InS b s ∧ (s.ow, s.ep) = t) ∨ HasS r b t := by
  rw [show s :: r = [s] ++ r from rfl, HasS.append, HasS.one]
end Go.Proofs.S7
namespace Go.Proofs.S7
open Go Go.Proofs Go.SX Go.RowKit
theorem nth_spn {L M : List Spn} (hl : L.length = M.length) (h : ∀ j, j < L.length → nth spn0 L j = nth spn0 M j) : L = M := by
  apply List.ext_getElem hl
  intro j h1 h2
  have := h j h1
  rwa [nth_lt h1, nth_lt h2] at this
end Go.Proofs.S7
namespace Go.Proofs.S7
open Go Go.Proofs Go.SX Go.RowKit
def OwR (w : World) (L : List Spn) (e : Ending) (w' : World) : Prop := ∃ v', e = .returned v' ∧ OwP (fun x => w.heap.size ≤ x) w' v' L ∧ Below w.heap.size w w'
set_option maxRecDepth 100000 in
set_option maxHeartbeats 8000000 in
theorem clone_ok {P : Nat → Prop} (w : World) (v : Value) (L : List Spn) (hL : RdP P w v L) (h0 : 0 < L.length) (hn : L.length ≤ 1000000) : Calls Try.prog 41 (denL [.v v]).toArray w (OwR w L) := by
  obtain ⟨b, o0, cap, u, fz, hP, rfl, hrep⟩ := hL.opn h0
  refine enter (F := frame0 w) Try.func41 rfl [.sl 0 b o0 0 L.length cap 4] [(b, false, .arr o0 L.length (fun j => spnC (nth spn0 L j)) 4 u fz)] (by simp [Try.f41]) (HpAll.one hrep) (keeps0 w) fun a hr => ?_
  refine seg cfg41_ok mixed PanicFree.body 1000 [false] [] hr (by first | trivial | exact HpRep.nil | assumption) (by kernel_rfl) fun s_ hs_ => ?_
  simp (maxSteps := 10000000) [SX.vc, SX.stop, SX.contS, SX.contB, SX.sxStep, SX.stepPure, SX.stepNew, SX.stepStore, SX.guardIx, SX.evOp, SX.opd, SX.opds, SX.look, SX.putS, SX.gobs, SX.AllP, SX.leave, SX.lookT, SX.evBuiltin, SX.evBin, SX.evEq, SX.evNew, SX.evStore, SX.SV.cells, SX.env0, cfg41, Try.f41]
  refine ⟨by (unfold SX.Ob; first | trivial | omega | ((try simp only [SX.inK]); (try simp [SX.den, SX.IsU8, SX.AllP, *]); (try omega))), ?_⟩
  intro a1 w1 hr1 _
  obtain ⟨s_0, hs00⟩ : ∃ x, x = s_ := ⟨_, rfl⟩
  subst hs00
  refine post_append cfg41_ok hr1 rfl (d := 7) rfl (by simp) rfl rfl (t := 28) (t' := 28) rfl rfl rfl rfl rfl rfl (by decide) (j := 0) rfl rfl (base2 := 0) (by omega) (.inr ⟨rfl, rfl, Nat.le_refl _, Nat.le_refl _⟩) h0 (by show (2 * (0 + L.length) + 192) * 32 ≤ 281474976710656; omega) (fun j hj z hz => ?_) ?_
  · simp only [spnC, Nat.zero_add, List.mem_cons, List.not_mem_nil, or_false] at hz
    rcases hz with rfl | rfl | rfl | rfl <;> trivial
  intro a3 w3 b' cap' N' row' u' hc1' hc2' hrow0 hrow1 hb' hr3
  refine seg cfg41_ok mixed PanicFree.body 1000 [] [] hr3 (by first | trivial | exact HpRep.nil | assumption) (by kernel_rfl) fun s_ hs_ => ?_
  simp (maxSteps := 10000000) [SX.vc, SX.stop, SX.contS, SX.sxStep, SX.stepPure, SX.guardIx, SX.evOp, SX.opd, SX.look, SX.putS, SX.gobs, SX.AllP, SX.leave, cfg41]
  refine ⟨by (unfold SX.Ob; first | trivial | omega | ((try simp only [SX.inK]); (try simp [SX.den, SX.IsU8, SX.AllP, *]); (try omega))), ?_⟩
  intro a4 w4 hr4 _
  have hA := hr4.all
  have hbb : w.heap.size ≤ b' := by
    have h10 : w.heap.size ≤ w1.heap.size := hr1.keeps.size
    have h11 := hr1.all.2.1.2.1
    rcases hb' with ⟨h, rfl⟩ | rfl
    · cases h
      rcases h11 rfl with h | h
      · exact h
      · cases h
    · exact h10
  exact post_retn (end1 hr4 rfl rfl ⟨_, rfl, .inr ⟨b', N', cap', u', row', hbb, by simp [den], by omega, by omega, hc2', hA.2.1.1, fun j hj => by have := hrow1 j hj; simpa using this⟩, hr4.keeps.toBelow⟩).1
end Go.Proofs.S7
namespace Go.Proofs.S7
open Go Go.Proofs Go.SX Go.RowKit
def NewR (w : World) (n : Int) (e : Ending) (w' : World) : Prop :=
  ((1 ≤ n ∧ n ≤ 1099511627776 ∧ ∃ v', e = .returned (den (.tu [.v v', .v (.int .i64 0)])) ∧ RdP (fun x => w.heap.size ≤ x) w' v' [⟨0, n, -1, 0⟩]) ∨ (¬ (1 ≤ n ∧ n ≤ 1099511627776) ∧ e = .returned (den (.tu [.v (.slice none 0 0), .v (.int .i64 1)])))) ∧ Below w.heap.size w w'
set_option maxRecDepth 100000 in
set_option maxHeartbeats 8000000 in
theorem New_ok (w : World) (n : Int) : Calls Try.prog 39 (denL [.v (.int .i64 n)]).toArray w (NewR w n) := by
  refine enter (F := frame0 w) Try.func39 rfl [.v (.int .i64 n)] [] (by simp [Try.f39]) trivial (keeps0 w) fun a hr => ?_
  by_cases h1 : n < 1
  · refine seg cfg39_ok mixed PanicFree.body 1000 [true] [(6, true)] hr (by first | trivial | exact HpRep.nil | assumption) (by kernel_rfl) fun s_ hs_ => ?_
    simp (maxSteps := 10000000) [SX.vc, SX.stop, SX.contS, SX.contB, SX.sxStep, SX.stepPure, SX.guardIx, SX.evOp, SX.opd, SX.look, SX.putS, SX.gobs, SX.AllP, SX.leave, SX.lookB, SX.evBin, SX.evInt, SX.evPick, SX.cnd, SX.env0, Go.undef, cfg39, Try.f39, h1]
    refine ⟨by (unfold SX.Ob; first | trivial | omega | ((try simp only [SX.inK]); (try simp [SX.den, SX.IsU8, SX.AllP, *]); (try omega))), ?_⟩
    intro a1 w1 hr1 _
    exact post_retn (end2 hr1 rfl rfl rfl ⟨.inr ⟨by omega, rfl⟩, hr1.keeps.toBelow⟩).1
  by_cases h2 : 1099511627776 < n
  · refine seg cfg39_ok mixed PanicFree.body 1000 [true] [(6, false)] hr (by first | trivial | exact HpRep.nil | assumption) (by kernel_rfl) fun s_ hs_ => ?_
    simp (maxSteps := 10000000) [SX.vc, SX.stop, SX.contS, SX.contB, SX.sxStep, SX.stepPure, SX.guardIx, SX.evOp, SX.opd, SX.look, SX.putS, SX.gobs, SX.AllP, SX.leave, SX.lookB, SX.evBin, SX.evInt, SX.evPick, SX.cnd, SX.env0, cfg39, Try.f39, h1, h2]
    refine ⟨by (unfold SX.Ob; first | trivial | omega | ((try simp only [SX.inK]); (try simp [SX.den, SX.IsU8, SX.AllP, *]); (try omega))), ?_⟩
    intro a1 w1 hr1 _
    exact post_retn (end2 hr1 rfl rfl rfl ⟨.inr ⟨by omega, rfl⟩, hr1.keeps.toBelow⟩).1
  refine seg cfg39_ok mixed PanicFree.body 1000 [false] [(6, false)] hr (by first | trivial | exact HpRep.nil | assumption) (by kernel_rfl) fun sN hsN => ?_
  simp (maxSteps := 10000000) [SX.vc, SX.stop, SX.contS, SX.contB, SX.sxStep, SX.stepPure, SX.stepNew, SX.guardIx, SX.evOp, SX.opd, SX.opds, SX.look, SX.putS, SX.gobs, SX.AllP, SX.leave, SX.lookB, SX.lookT, SX.evBin, SX.evInt, SX.evFill, SX.evBuild, SX.szs, SX.cellsV, SX.evNew, SX.spliceL, SX.SV.cells, SX.evPick, SX.cnd, SX.env0, Go.Value.cells, cfg39, Try.f39, h1, h2]
  refine ⟨by (unfold SX.Ob; first | trivial | omega | ((try simp only [SX.inK]); (try simp [SX.den, SX.IsU8, SX.AllP, *]); (try omega))), ?_⟩
  intro a1 w1 hr1 _
  have hS := (RdS.lit (enc := spnC) (sz := 4) (d := spn0) (x := ⟨0, n, -1, 0⟩) hr1.all.1.1 (by simp [spnC])).mono (P' := fun x => w.heap.size ≤ x) fun x _ h => by omega
  exact post_retn (end2 hr1 rfl rfl rfl ⟨.inl ⟨by omega, by omega, _, rfl, hS⟩, hr1.keeps.toBelow⟩).1
end Go.Proofs.S7
namespace Go.Proofs.S7
open Go Go.Proofs Go.SX Go.RowKit
theorem flatS (L : List Spn) : ∀ x ∈ L, ∀ c ∈ spnC x, NotAgg (den c) := by
  intro x _ c hc
  simp only [spnC, List.mem_cons, List.not_mem_nil, or_false] at hc
  rcases hc with rfl | rfl | rfl | rfl <;> trivial
theorem OwS.nil {α : Type} {enc : α → List SV} {sz : Nat} {d : α} {P : Nat → Prop} {w : World} : OwS enc sz d P w (.slice none 0 0) [] := .inl ⟨rfl, none, rfl⟩
theorem stepS_at {o : List Spn} {e y : Spn} {q : Nat} (hq : o.length = q + 1) (hy : nth spn0 o q = y) : stepS o e = if y.ow = e.ow ∧ y.ep = e.ep then o.set q { y with to := e.to } else o ++ [e] := by
  rcases List.eq_nil_or_concat o with rfl | ⟨p, z, rfl⟩
  · simp at hq
  · rw [List.concat_eq_append] at hq hy ⊢
    have hp : p.length = q := by simpa using hq
    subst hp
    have hz : z = y := by rw [← hy]; simp [nth]
    subst hz
    rw [stepS_concat]
    simp
def JLoop (w : World) (v : Value) (L : List Spn) (m : Nat) (a : Act) (w' : World) : Prop :=
  ∃ (k : Nat) (out : List Spn) (v' : Value), m = L.length - k ∧ k ≤ L.length ∧ joinGoS out (L.drop k) = joinS L ∧ out.length ≤ k ∧ OwP (fun x => w.heap.size ≤ x) w' v' out ∧
    RepX (frame0 w) ⟨[(9, 0, .v (.int .i64 k)), (8, 0, .v (.int .i64 L.length)), (7, 0, .v v), (3, 0, .v v')], [], 0, 0, 50, [], [], []⟩ a w'
set_option maxRecDepth 100000 in
set_option maxHeartbeats 8000000 in
theorem join_ok {P : Nat → Prop} (w : World) (v : Value) (L : List Spn) (hL : RdP P w v L) (hn : L.length ≤ 1000000) : Calls Try.prog 75 (denL [.v v]).toArray w (OwR w (joinS L)) := by
  obtain ⟨ad, cp, rfl⟩ := hL.slice
  refine enter (F := frame0 w) Try.func75 rfl [.v (.slice ad L.length cp)] [] (by simp [Try.f75]) trivial (keeps0 w) fun a hr => ?_
  refine seg cfg75_ok mixed PanicFree.body 1000 [] [] hr (by first | trivial | exact HpRep.nil | assumption) (by kernel_rfl) fun s_ hs_ => ?_
  simp (maxSteps := 10000000) [SX.vc, SX.stop, SX.contS, SX.sxStep, SX.stepPure, SX.guardIx, SX.evOp, SX.opd, SX.opds, SX.look, SX.putS, SX.gobs, SX.AllP, SX.leave, SX.lookT, SX.evBuiltin, SX.env0, cfg75, Try.f75]
  refine ⟨by (unfold SX.Ob; first | trivial | omega | ((try simp only [SX.inK]); (try simp [SX.den, SX.IsU8, SX.AllP, *]); (try omega))), ?_⟩
  intro a1 w1 hr1 _
  refine post_loop (JLoop w (.slice ad L.length cp) L) L.length ⟨0, [], .slice none 0 0, rfl, by omega, rfl, by simp, OwS.nil, hr1.re (by simp [envTo, SX.look]) trivial rfl rfl⟩ ?_
  rintro m a4 w4 ⟨k, out, v', rfl, hk, hj, hol, hO, hr4⟩
  have z4 : w.heap.size ≤ w4.heap.size := hr4.keeps.size
  by_cases hlt : k < L.length
  · obtain ⟨b, o0, cap, u, fz, hP, hv, hrep⟩ := hL.opn hlt
    cases hv
    have hbw := SO.rep_lt hrep
    have hrep2 := SO.rep_same hrep (hr4.keeps.toBelow.block _ hbw)
    obtain ⟨x, hx⟩ : ∃ x, nth spn0 L k = x := ⟨_, rfl⟩
    rw [drop_nth (d := spn0) hlt, hx, joinGoS] at hj
    rcases hq : out.length with _ | q
    · obtain rfl : out = [] := List.length_eq_zero_iff.1 hq
      obtain ⟨vd, vc, rfl⟩ := hO.slice
      have h5 := (hr4.top 7 (.sl 0 b o0 0 L.length cp 4) rfl (by simp [den])).see _ (HpAll.one hrep2)
      refine seg cfg75_ok mixed PanicFree.body 1000 [true, false] [(18, false), (28, false)] h5.rebase (by first | trivial | exact HpRep.nil | assumption) (by kernel_rfl) fun s_ hs_ => ?_
      simp (maxSteps := 10000000) [SX.vc, SX.stop, SX.contS, SX.contB, SX.contR, SX.contD, SX.sxStep, SX.stepPure, SX.stepNew, SX.stepStore, SX.guardIx, SX.evOp, SX.opd, SX.opds, SX.look, SX.putS, SX.gobs, SX.AllP, SX.leave, SX.lookB, SX.lookT, SX.lookN, SX.evBuiltin, SX.evBin, SX.evInt, SX.arith, SX.evLoad, SX.shapeUp, SX.evIndexAddr, SX.cellsV, SX.evNew, SX.evStore, SX.spliceL, SX.SV.cells, SX.evPick, SX.cnd, SX.TD.isAgg, SX.NotAgg, Go.Value.cells, Go.undef, cfg75, spnC, hx]
      refine ⟨by (unfold SX.Ob; first | trivial | omega | ((try simp only [SX.inK]); (try simp [SX.den, SX.IsU8, SX.AllP, *]); (try omega))), ?_⟩
      intro a6 w6 hr6' _
      have hr6 := h5.unbase hr6'
      have z6 : w.heap.size ≤ w6.heap.size := hr6.keeps.size
      have hO6 := hO.keep hr6'.keeps (by simp [mutB])
      refine post_app (C := cfg75) cfg75_ok hr6 (by first | exact wanted_none rfl | exact wanted_zero (hr6.env.same rfl rfl rfl rfl) rfl (by simp)) rfl (by simp) rfl rfl rfl rfl rfl rfl rfl rfl rfl (by decide) (flatS _) (by (try simp only [List.length_cons, List.length_nil]); omega) (fun x hx => Nat.le_trans z6 hx) hO6 (RdS.lit (x := x) hr6.all.2.2.1.1 (by simp [spnC])) [] (fun _ _ _ _ => trivial) (fun x hx => .inl hx) fun V7 a7 w7 B7 hO7 hB7 hk7 hr7 => ?_
      refine seg cfg75_ok mixed PanicFree.body 1000 [] [] hr7.rebase (by first | trivial | exact HpRep.nil | assumption) (by kernel_rfl) fun s_ hs_ => ?_
      simp (maxSteps := 10000000) [SX.vc, SX.stop, SX.contS, SX.sxStep, SX.stepPure, SX.guardIx, SX.evOp, SX.opd, SX.look, SX.putS, SX.gobs, SX.AllP, SX.leave, SX.evBin, SX.evInt, SX.arith, cfg75]
      refine ⟨by (unfold SX.Ob; first | trivial | omega | ((try simp only [SX.inK]); (try simp [SX.den, SX.IsU8, SX.AllP, *]); (try omega))), ?_⟩
      intro a8 w8 hr8' _
      have hr8 := hr7.unbase hr8'
      exact post_rnd (L.length - (k + 1)) (by omega) ⟨k + 1, [x], V7, rfl, by omega, hj, by simp, hO7.keep hr8'.keeps (by simp [mutB]), hr8.re (by simp [envTo, SX.look, den]) trivial rfl rfl⟩
    · obtain ⟨b', N, cap', u', row, hP', hv', hc0, hc1, hc2, hrep', hrow⟩ := hO.opn (show q < out.length by omega)
      cases hv'
      obtain ⟨y, hy⟩ : ∃ y, nth spn0 out q = y := ⟨_, rfl⟩
      have hrq : row q = [.v (.int .i64 y.fr), .v (.int .i64 y.to), .v (.int .i64 y.ow), .v (.int .i64 y.ep)] := by rw [hrow q (by omega), hy]; rfl
      have hqN : q < N := by omega
      have hst := stepS_at (e := x) hq hy
      have h5 := ((hr4.top 7 (.sl 0 b o0 0 L.length cp 4) rfl (by simp [den])).top 3 (.sl 1 b' 0 0 out.length cap' 4) rfl (by simp [den])).see [(b, false, .arr o0 L.length (fun j => spnC (nth spn0 L j)) 4 u fz), (b', true, .arr 0 N row 4 u' (0, 0))] ⟨⟨hrep2, by simp, by simp; omega⟩, ⟨hrep', fun _ => .inl hP', by simp⟩, trivial⟩
      by_cases ho : y.ow = x.ow
      · by_cases hp : y.ep = x.ep
        · refine seg cfg75_ok mixed PanicFree.body 1000 [true, true] [(18, true), (28, true)] h5.rebase (by first | trivial | exact HpRep.nil | assumption) (by kernel_rfl) fun s_ hs_ => ?_
          simp (maxSteps := 10000000) [SX.vc, SX.stop, SX.contS, SX.contB, SX.contW, SX.contR, SX.contD, SX.sxStep, SX.stepPure, SX.stepNew, SX.stepStore, SX.guardIx, SX.evOp, SX.opd, SX.opds, SX.look, SX.putS, SX.gobs, SX.AllP, SX.leave, SX.lookB, SX.lookT, SX.lookN, SX.evBuiltin, SX.evBin, SX.evInt, SX.arith, SX.evLoad, SX.shapeUp, SX.evFieldAddr, SX.evIndexAddr, SX.cellsV, SX.evNew, SX.evStore, SX.spliceL, SX.SV.cells, SX.evPick, SX.popTo, SX.cnd, SX.TD.isAgg, SX.NotAgg, SX.thaw, Go.Value.cells, cfg75, spnC, hx, hq, hrq, ho, hp]
          refine ⟨by (unfold SX.Ob; first | trivial | omega | ((try simp only [SX.inK]); (try simp [SX.den, SX.IsU8, SX.AllP, *]); (try omega))), ?_⟩
          intro a8 w8 hr8' _
          have hr8 := h5.unbase hr8'
          rw [if_pos ⟨ho, hp⟩] at hst
          have hO8 : OwP (fun z => w.heap.size ≤ z) w8 (.slice (some ⟨b', 0, none⟩) (q + 1) cap') (out.set q { y with to := x.to }) := .inr ⟨b', N, cap', u', _, hP', by simp [hq], hc0, by simpa using hc1, hc2, hr8.all.2.1.1, fun j hj => (by
            simp only [List.length_set] at hj
            unfold setRow
            by_cases hjq : j = q
            · subst hjq
              rw [if_pos rfl, nth_lt (by simpa using hj)]
              simp [spnC, ho, hp]
            · rw [if_neg hjq, hrow j hj, nth_lt hj, nth_lt (by simpa using hj), List.getElem_set_ne (by omega)])⟩
          exact post_rnd (L.length - (k + 1)) (by omega) ⟨k + 1, _, _, rfl, by omega, by rw [← hst]; exact hj, by simp; omega, hO8, hr8.re (by simp [envTo, SX.look, den]) trivial rfl rfl⟩
        · refine seg cfg75_ok mixed PanicFree.body 1000 [true, false] [(18, true), (28, true)] h5.rebase (by first | trivial | exact HpRep.nil | assumption) (by kernel_rfl) fun s_ hs_ => ?_
          simp (maxSteps := 10000000) [SX.vc, SX.stop, SX.contS, SX.contB, SX.contW, SX.contR, SX.contD, SX.sxStep, SX.stepPure, SX.stepNew, SX.stepStore, SX.guardIx, SX.evOp, SX.opd, SX.opds, SX.look, SX.putS, SX.gobs, SX.AllP, SX.leave, SX.lookB, SX.lookT, SX.lookN, SX.evBuiltin, SX.evBin, SX.evInt, SX.arith, SX.evLoad, SX.shapeUp, SX.evFieldAddr, SX.evIndexAddr, SX.cellsV, SX.evNew, SX.evStore, SX.spliceL, SX.SV.cells, SX.evPick, SX.popTo, SX.cnd, SX.TD.isAgg, SX.NotAgg, SX.thaw, Go.Value.cells, cfg75, spnC, hx, hq, hrq, ho, hp]
          refine ⟨by (unfold SX.Ob; first | trivial | omega | ((try simp only [SX.inK]); (try simp [SX.den, SX.IsU8, SX.AllP, *]); (try omega))), ?_⟩
          intro a8 w8 hr8' _
          have hr8 := h5.unbase hr8'
          have z8 : w.heap.size ≤ w8.heap.size := hr8.keeps.size
          rw [if_neg fun h => hp h.2] at hst
          have hO8 : OwP (fun z => w.heap.size ≤ z) w8 (.slice (some ⟨b', 0, none⟩) (q + 1) cap') out := .inr ⟨b', N, cap', u', row, hP', by rw [hq], hc0, hc1, hc2, hr8.all.2.1.1, hrow⟩
          refine post_app (C := cfg75) cfg75_ok hr8 (by first | exact wanted_none rfl | exact wanted_zero (hr8.env.same rfl rfl rfl rfl) rfl (by simp)) rfl (by simp) rfl rfl rfl rfl rfl rfl rfl rfl rfl (by decide) (flatS _) (by (try simp only [List.length_cons, List.length_nil]); omega) (fun x hx => Nat.le_trans z8 hx) hO8 (RdS.lit (x := x) hr8.all.2.2.2.1.1 (by simp [spnC])) [] (fun _ _ _ _ => trivial) (fun x hx => .inl hx) fun V9 a9 w9 B9 hO9 hB9 hk9 hr9 => ?_
          refine seg cfg75_ok mixed PanicFree.body 1000 [] [] hr9.rebase (by first | trivial | exact HpRep.nil | assumption) (by kernel_rfl) fun s_ hs_ => ?_
          simp (maxSteps := 10000000) [SX.vc, SX.stop, SX.contS, SX.sxStep, SX.stepPure, SX.guardIx, SX.evOp, SX.opd, SX.look, SX.putS, SX.gobs, SX.AllP, SX.leave, SX.evBin, SX.evInt, SX.arith, cfg75]
          refine ⟨by (unfold SX.Ob; first | trivial | omega | ((try simp only [SX.inK]); (try simp [SX.den, SX.IsU8, SX.AllP, *]); (try omega))), ?_⟩
          intro a10 w10 hr10' _
          have hr10 := hr9.unbase hr10'
          exact post_rnd (L.length - (k + 1)) (by omega) ⟨k + 1, _, V9, rfl, by omega, by rw [← hst]; exact hj, by simp; omega, hO9.keep hr10'.keeps (by simp [mutB]), hr10.re (by simp [envTo, SX.look, den]) trivial rfl rfl⟩
      · refine seg cfg75_ok mixed PanicFree.body 1000 [true, false] [(18, true), (28, false)] h5.rebase (by first | trivial | exact HpRep.nil | assumption) (by kernel_rfl) fun s_ hs_ => ?_
        simp (maxSteps := 10000000) [SX.vc, SX.stop, SX.contS, SX.contB, SX.contR, SX.contD, SX.sxStep, SX.stepPure, SX.stepNew, SX.stepStore, SX.guardIx, SX.evOp, SX.opd, SX.opds, SX.look, SX.putS, SX.gobs, SX.AllP, SX.leave, SX.lookB, SX.lookT, SX.lookN, SX.evBuiltin, SX.evBin, SX.evInt, SX.arith, SX.evLoad, SX.shapeUp, SX.evFieldAddr, SX.evIndexAddr, SX.cellsV, SX.evNew, SX.evStore, SX.spliceL, SX.SV.cells, SX.evPick, SX.cnd, SX.TD.isAgg, SX.NotAgg, SX.thaw, Go.Value.cells, Go.undef, cfg75, spnC, hx, hq, hrq, ho]
        refine ⟨by (unfold SX.Ob; first | trivial | omega | ((try simp only [SX.inK]); (try simp [SX.den, SX.IsU8, SX.AllP, *]); (try omega))), ?_⟩
        intro a8 w8 hr8' _
        have hr8 := h5.unbase hr8'
        have z8 : w.heap.size ≤ w8.heap.size := hr8.keeps.size
        rw [if_neg fun h => ho h.1] at hst
        have hO8 : OwP (fun z => w.heap.size ≤ z) w8 (.slice (some ⟨b', 0, none⟩) (q + 1) cap') out := .inr ⟨b', N, cap', u', row, hP', by rw [hq], hc0, hc1, hc2, hr8.all.2.1.1, hrow⟩
        refine post_app (C := cfg75) cfg75_ok hr8 (by first | exact wanted_none rfl | exact wanted_zero (hr8.env.same rfl rfl rfl rfl) rfl (by simp)) rfl (by simp) rfl rfl rfl rfl rfl rfl rfl rfl rfl (by decide) (flatS _) (by (try simp only [List.length_cons, List.length_nil]); omega) (fun x hx => Nat.le_trans z8 hx) hO8 (RdS.lit (x := x) hr8.all.2.2.2.1.1 (by simp [spnC])) [] (fun _ _ _ _ => trivial) (fun x hx => .inl hx) fun V9 a9 w9 B9 hO9 hB9 hk9 hr9 => ?_
        refine seg cfg75_ok mixed PanicFree.body 1000 [] [] hr9.rebase (by first | trivial | exact HpRep.nil | assumption) (by kernel_rfl) fun s_ hs_ => ?_
        simp (maxSteps := 10000000) [SX.vc, SX.stop, SX.contS, SX.sxStep, SX.stepPure, SX.guardIx, SX.evOp, SX.opd, SX.look, SX.putS, SX.gobs, SX.AllP, SX.leave, SX.evBin, SX.evInt, SX.arith, cfg75]
        refine ⟨by (unfold SX.Ob; first | trivial | omega | ((try simp only [SX.inK]); (try simp [SX.den, SX.IsU8, SX.AllP, *]); (try omega))), ?_⟩
        intro a10 w10 hr10' _
        have hr10 := hr9.unbase hr10'
        exact post_rnd (L.length - (k + 1)) (by omega) ⟨k + 1, _, V9, rfl, by omega, by rw [← hst]; exact hj, by simp; omega, hO9.keep hr10'.keeps (by simp [mutB]), hr10.re (by simp [envTo, SX.look, den]) trivial rfl rfl⟩
  · obtain rfl : k = L.length := by omega
    refine seg cfg75_ok mixed PanicFree.body 1000 [false] [] hr4.rebase (by first | trivial | exact HpRep.nil | assumption) (by kernel_rfl) fun s_ hs_ => ?_
    simp (maxSteps := 10000000) [SX.vc, SX.stop, SX.contS, SX.contB, SX.contW, SX.sxStep, SX.stepPure, SX.guardIx, SX.evOp, SX.opd, SX.look, SX.putS, SX.gobs, SX.AllP, SX.leave, SX.evBin, SX.evInt, SX.popTo, cfg75]
    refine ⟨by (unfold SX.Ob; first | trivial | omega | ((try simp only [SX.inK]); (try simp [SX.den, SX.IsU8, SX.AllP, *]); (try omega))), ?_⟩
    intro a6 w6 hr6' _
    have hr6 := hr4.unbase hr6'
    refine post_retn (end1 hr6 rfl rfl ⟨_, rfl, ?_, hr6.keeps.toBelow⟩).1
    rw [← hj, List.drop_length, joinGoS]
    exact hO.keep hr6'.keeps (by simp [mutB])
end Go.Proofs.S7
