/- Requests: what is known of those who ask. -/
import Derived.Test.YtffooiccklfhlaaNT
import Derived.Test.YtffooiccklfhlaaSxP
namespace Go.Proofs
set_option linter.unusedVariables false
set_option linter.unusedSimpArgs false
set_option linter.unusedSectionVars false
open Go Go.SX Go.RowKit

theorem callable (n : Nat) {fn : Func} (h : Try.prog.funcs[n]? = some fn) (h2 : (fn.name == "runtime.NumGoroutine") = false := by kernel_rfl) (h3 : fn.body.isNone = false := by kernel_rfl) : Callable Try.prog n := ⟨fn, h, h2, h3⟩

theorem HpRep_below {H : Hp} {w w' : World} (h : HpRep H w) (hb : Below w.heap.size w w') : HpRep H w' := fun i b m o hi => SO.rep_same (h i b m o hi) (hb.block b (SO.rep_lt (h i b m o hi)))

/-- A message, as its cells. -/
structure Mg where
  kind : Int
  frm : Int
  to : Int
  mid : Int
  a1 : Option Addr
  n1 : Nat
  c1 : Nat
  a2 : Option Addr
  n2 : Nat
  c2 : Nat
deriving DecidableEq

/-- An answer. -/
structure Sad where
  id : Int
  m : Mg
deriving DecidableEq

/-- What is known of one who asks. -/
structure Sen where
  frm : Int
  below : Int
  ad : Option Addr
  cp : Nat
  S : List Sad
deriving DecidableEq

def mg0 : Mg := ⟨0, 0, 0, 0, none, 0, 0, none, 0, 0⟩
def mgC (m : Mg) : List SV := [.v (.int .i64 m.kind), .v (.int .i64 m.frm), .v (.int .i64 m.to), .v (.int .i64 m.mid), .v (.slice m.a1 m.n1 m.c1), .v (.slice m.a2 m.n2 m.c2)]
def sad0 : Sad := ⟨0, mg0⟩
def sadC (x : Sad) : List SV := [.v (.int .i64 x.id), .v (.int .i64 x.m.kind), .v (.int .i64 x.m.frm), .v (.int .i64 x.m.to), .v (.int .i64 x.m.mid), .v (.slice x.m.a1 x.m.n1 x.m.c1), .v (.slice x.m.a2 x.m.n2 x.m.c2)]
def sen0 : Sen := ⟨0, 0, none, 0, []⟩
def senC (s : Sen) : List SV := [.v (.int .i64 s.frm), .v (.int .i64 s.below), .v (.slice s.ad s.S.length s.cp)]
abbrev RdN := RdS senC 3 sen0
abbrev OwN := OwS senC 3 sen0
abbrev RdA := RdS sadC 7 sad0
abbrev OwA := OwS sadC 7 sad0
def intC (x : Int) : List SV := [.v (.int .i64 x)]
abbrev RdI := RdS intC 1 (0 : Int)
abbrev OwI := OwS intC 1 (0 : Int)

/-- A list of those who ask that may be read, its answers too. -/
def RdD (P : Nat → Prop) (w : World) (v : Value) (L : List Sen) : Prop :=
  RdN P w v L ∧ ∀ s ∈ L, RdA P w (.slice s.ad s.S.length s.cp) s.S

theorem RdD.keep {P : Nat → Prop} {w w' : World} {v : Value} {L : List Sen} {M : List Nat} (h : RdD P w v L) (hk : KeepsTo w M w') (hM : ∀ x ∈ M, ¬ P x) : RdD P w' v L :=
  ⟨h.1.keep hk hM, fun s hs => (h.2 s hs).keep hk hM⟩
theorem RdD.below {P : Nat → Prop} {w w' : World} {v : Value} {L : List Sen} (h : RdD P w v L) (hb : Below w.heap.size w w') : RdD P w' v L := h.keep (KeepsTo.below hb []) (by simp)
theorem RdD.mono {P P' : Nat → Prop} {w : World} {v : Value} {L : List Sen} (h : RdD P w v L) (hP : ∀ x, x < w.heap.size → P x → P' x) : RdD P' w v L :=
  ⟨h.1.mono hP, fun s hs => (h.2 s hs).mono hP⟩
theorem RdD.nil {P : Nat → Prop} {w : World} : RdD P w (.slice none 0 0) [] := ⟨.inl ⟨rfl, _, _, rfl⟩, by simp⟩

/-- A call that tells something, and changes nothing that was there. -/
def Ret (w : World) (v : SV) (e : Ending) (w' : World) : Prop := e = .returned (den v) ∧ Below w.heap.size w w'

theorem ret_dec {b : Bool} {p : Prop} [Decidable p] (h : b = true ↔ p) : Ending.returned (den (.v (.bool b))) = Ending.returned (den (.v (.bool (decide p)))) := by
  simp only [den]
  congr 2
  rw [Bool.eq_iff_iff, h]
  simp

theorem flatN (L : List Sen) : ∀ x ∈ L, ∀ c ∈ senC x, NotAgg (den c) := by
  intro x _ c hc
  simp only [senC, List.mem_cons, List.not_mem_nil, or_false] at hc
  rcases hc with rfl | rfl | rfl <;> trivial
theorem flatA (L : List Sad) : ∀ x ∈ L, ∀ c ∈ sadC x, NotAgg (den c) := by
  intro x _ c hc
  simp only [sadC, List.mem_cons, List.not_mem_nil, or_false] at hc
  rcases hc with rfl | rfl | rfl | rfl | rfl | rfl | rfl <;> trivial
theorem flatI (L : List Int) : ∀ x ∈ L, ∀ c ∈ intC x, NotAgg (den c) := by
  intro x _ c hc
  simp only [intC, List.mem_cons, List.not_mem_nil, or_false] at hc
  subst hc
  trivial
theorem OwS.nil {α : Type} {enc : α → List SV} {sz : Nat} {d : α} {P : Nat → Prop} {w : World} : OwS enc sz d P w (.slice none 0 0) [] := .inl ⟨rfl, none, rfl⟩

def cmpI (x y : Int) : Int := if x < y then -1 else if y < x then 1 else 0
theorem cmpI_lt {x y : Int} : cmpI x y < 0 ↔ x < y := by unfold cmpI; split <;> (try split) <;> omega
theorem cmpI_eq {x y : Int} : cmpI x y = 0 ↔ x = y := by unfold cmpI; split <;> (try split) <;> omega

set_option maxRecDepth 100000 in
set_option maxHeartbeats 8000000 in
/-- isNaN. -/
theorem nan_ok (w : World) (x : Int) : Calls Try.prog 44 (denL [.v (.int .i64 x)]).toArray w (Ret w (.v (.bool false))) := by
  refine enter (F := frame0 w) Try.func44 rfl [.v (.int .i64 x)] [] (by simp [Try.f44]) trivial (keeps0 w) fun a hr => ?_
  refine seg cfg44_ok mixed PanicFree.body 1000 [] [] hr (by first | trivial | exact HpRep.nil | assumption) (by kernel_rfl) fun s_ hs_ => ?_
  simp (maxSteps := 10000000) [SX.vc, SX.stop, SX.contS, SX.contB, SX.contW, SX.contR, SX.contD, SX.sxStep, SX.stepPure, SX.stepNew, SX.stepStore, SX.stepKeep, SX.guardIx, SX.evOp, SX.opd, SX.opds, SX.optOpd, SX.look, SX.putS, SX.gobs, SX.AllP, SX.leave, SX.lookC, SX.lookB, SX.lookT, SX.lookN, SX.findK, SX.evBuiltin, SX.ints, SX.foldI, SX.evBin, SX.evInt, SX.evStr, SX.evEq, SX.arith, SX.evLoad, SX.shapeUp, SX.evFieldAddr, SX.evField, SX.evIndexAddr, SX.evIndex, SX.evFill, SX.evBuild, SX.szs, SX.cellsV, SX.evNew, SX.evStore, SX.spliceL, SX.SV.cells, SX.evConv, SX.evSlice, SX.bnd, SX.evNil, SX.evUn, SX.evPick, SX.pickOpd, SX.popTo, SX.cnd, SX.env0, SX.TD.isAgg, SX.TD.isIface, SX.tails, SX.NotAgg, SX.evLookup, SX.evConvH, SX.evPtrEq, SX.isCells, SX.thaw, SX.frz, SX.fixB, SX.rootIx, SX.Froz, SX.frzStep, SX.fork, Go.Value.cells, Go.undef, cfg44, Try.f44]
  refine ⟨by (unfold SX.Ob; first | trivial | omega | ((try simp only [SX.inK]); (try simp [SX.den, SX.IsU8, SX.AllP, *]); (try omega))), ?_⟩
  intro a1 w1 hr1 _
  exact post_retn (end1 hr1 rfl rfl ⟨by simp [den], hr1.keeps.toBelow⟩).1

set_option maxRecDepth 100000 in
set_option maxHeartbeats 8000000 in
/-- cmp.Compare. -/
theorem cmp_ok (w : World) (x y : Int) : Calls Try.prog 33 (denL [.v (.int .i64 x), .v (.int .i64 y)]).toArray w (Ret w (.v (.int .i64 (cmpI x y)))) := by
  refine enter (F := frame0 w) Try.func33 rfl [.v (.int .i64 x), .v (.int .i64 y)] [] (by simp [Try.f33]) trivial (keeps0 w) fun a hr => ?_
  refine seg cfg33_ok mixed PanicFree.body 1000 [] [] hr (by first | trivial | exact HpRep.nil | assumption) (by kernel_rfl) fun s_ hs_ => ?_
  simp (maxSteps := 10000000) [SX.vc, SX.stop, SX.contS, SX.contB, SX.contW, SX.contR, SX.contD, SX.sxStep, SX.stepPure, SX.stepNew, SX.stepStore, SX.stepKeep, SX.guardIx, SX.evOp, SX.opd, SX.opds, SX.optOpd, SX.look, SX.putS, SX.gobs, SX.AllP, SX.leave, SX.lookC, SX.lookB, SX.lookT, SX.lookN, SX.findK, SX.evBuiltin, SX.ints, SX.foldI, SX.evBin, SX.evInt, SX.evStr, SX.evEq, SX.arith, SX.evLoad, SX.shapeUp, SX.evFieldAddr, SX.evField, SX.evIndexAddr, SX.evIndex, SX.evFill, SX.evBuild, SX.szs, SX.cellsV, SX.evNew, SX.evStore, SX.spliceL, SX.SV.cells, SX.evConv, SX.evSlice, SX.bnd, SX.evNil, SX.evUn, SX.evPick, SX.pickOpd, SX.popTo, SX.cnd, SX.env0, SX.TD.isAgg, SX.TD.isIface, SX.tails, SX.NotAgg, SX.evLookup, SX.evConvH, SX.evPtrEq, SX.isCells, SX.thaw, SX.frz, SX.fixB, SX.rootIx, SX.Froz, SX.frzStep, SX.fork, Go.Value.cells, Go.undef, cfg33, Try.f33]
  refine ⟨by (unfold SX.Ob; first | trivial | omega | ((try simp only [SX.inK]); (try simp [SX.den, SX.IsU8, SX.AllP, *]); (try omega))), ?_⟩
  intro a1 w1 hr1 _
  refine post_call 44 [.v (.int .i64 x)] hr1 (by first | exact wanted_none rfl | exact wanted_zero (hr1.env.same rfl rfl rfl rfl) rfl (by simp) | exact wanted_zero (hr1.env.same rfl rfl rfl rfl) rfl (by simp [*])) rfl (callable 44 Try.func44) (nan_ok w1 x) ?_
  rintro e2 w2 ⟨rfl, hb2⟩
  refine ⟨_, rfl, ?_⟩
  have h2 := hr1.ret hb2 8 (.v (.bool false)) rfl _ (hr1.all.below hb2) (by simp) rfl
  refine seg cfg33_ok mixed PanicFree.body 1000 [] [] h2 (by first | trivial | exact HpRep.nil | assumption) (by kernel_rfl) fun s_ hs_ => ?_
  simp (maxSteps := 10000000) [SX.vc, SX.stop, SX.contS, SX.contB, SX.contW, SX.contR, SX.contD, SX.sxStep, SX.stepPure, SX.stepNew, SX.stepStore, SX.stepKeep, SX.guardIx, SX.evOp, SX.opd, SX.opds, SX.optOpd, SX.look, SX.putS, SX.gobs, SX.AllP, SX.leave, SX.lookC, SX.lookB, SX.lookT, SX.lookN, SX.findK, SX.evBuiltin, SX.ints, SX.foldI, SX.evBin, SX.evInt, SX.evStr, SX.evEq, SX.arith, SX.evLoad, SX.shapeUp, SX.evFieldAddr, SX.evField, SX.evIndexAddr, SX.evIndex, SX.evFill, SX.evBuild, SX.szs, SX.cellsV, SX.evNew, SX.evStore, SX.spliceL, SX.SV.cells, SX.evConv, SX.evSlice, SX.bnd, SX.evNil, SX.evUn, SX.evPick, SX.pickOpd, SX.popTo, SX.cnd, SX.env0, SX.TD.isAgg, SX.TD.isIface, SX.tails, SX.NotAgg, SX.evLookup, SX.evConvH, SX.evPtrEq, SX.isCells, SX.thaw, SX.frz, SX.fixB, SX.rootIx, SX.Froz, SX.frzStep, SX.fork, Go.Value.cells, Go.undef, cfg33]
  refine ⟨by (unfold SX.Ob; first | trivial | omega | ((try simp only [SX.inK]); (try simp [SX.den, SX.IsU8, SX.AllP, *]); (try omega))), ?_⟩
  intro a3 w3 hr3 _
  refine post_call 44 [.v (.int .i64 y)] hr3 (by first | exact wanted_none rfl | exact wanted_zero (hr3.env.same rfl rfl rfl rfl) rfl (by simp) | exact wanted_zero (hr3.env.same rfl rfl rfl rfl) rfl (by simp [*])) rfl (callable 44 Try.func44) (nan_ok w3 y) ?_
  rintro e4 w4 ⟨rfl, hb4⟩
  refine ⟨_, rfl, ?_⟩
  have h4 := hr3.ret hb4 10 (.v (.bool false)) rfl _ (hr3.all.below hb4) (by simp) rfl
  by_cases h1 : x < y
  · have hc : cmpI x y = -1 := if_pos h1
    refine seg cfg33_ok mixed PanicFree.body 1000 [false, false, true] [] h4 (by first | trivial | exact HpRep.nil | assumption) (by kernel_rfl) fun s_ hs_ => ?_
    simp (maxSteps := 10000000) [SX.vc, SX.stop, SX.contS, SX.contB, SX.contW, SX.contR, SX.contD, SX.sxStep, SX.stepPure, SX.stepNew, SX.stepStore, SX.stepKeep, SX.guardIx, SX.evOp, SX.opd, SX.opds, SX.optOpd, SX.look, SX.putS, SX.gobs, SX.AllP, SX.leave, SX.lookC, SX.lookB, SX.lookT, SX.lookN, SX.findK, SX.evBuiltin, SX.ints, SX.foldI, SX.evBin, SX.evInt, SX.evStr, SX.evEq, SX.arith, SX.evLoad, SX.shapeUp, SX.evFieldAddr, SX.evField, SX.evIndexAddr, SX.evIndex, SX.evFill, SX.evBuild, SX.szs, SX.cellsV, SX.evNew, SX.evStore, SX.spliceL, SX.SV.cells, SX.evConv, SX.evSlice, SX.bnd, SX.evNil, SX.evUn, SX.evPick, SX.pickOpd, SX.popTo, SX.cnd, SX.env0, SX.TD.isAgg, SX.TD.isIface, SX.tails, SX.NotAgg, SX.evLookup, SX.evConvH, SX.evPtrEq, SX.isCells, SX.thaw, SX.frz, SX.fixB, SX.rootIx, SX.Froz, SX.frzStep, SX.fork, Go.Value.cells, Go.undef, cfg33, h1]
    refine ⟨by (unfold SX.Ob; first | trivial | omega | ((try simp only [SX.inK]); (try simp [SX.den, SX.IsU8, SX.AllP, *]); (try omega))), ?_⟩
    intro a5 w5 hr5 _
    exact post_retn (end1 hr5 rfl rfl ⟨by rw [hc], hr5.keeps.toBelow⟩).1
  by_cases h2' : y < x
  · have hc : cmpI x y = 1 := by rw [cmpI, if_neg h1, if_pos h2']
    refine seg cfg33_ok mixed PanicFree.body 1000 [false, false, false, true] [] h4 (by first | trivial | exact HpRep.nil | assumption) (by kernel_rfl) fun s_ hs_ => ?_
    simp (maxSteps := 10000000) [SX.vc, SX.stop, SX.contS, SX.contB, SX.contW, SX.contR, SX.contD, SX.sxStep, SX.stepPure, SX.stepNew, SX.stepStore, SX.stepKeep, SX.guardIx, SX.evOp, SX.opd, SX.opds, SX.optOpd, SX.look, SX.putS, SX.gobs, SX.AllP, SX.leave, SX.lookC, SX.lookB, SX.lookT, SX.lookN, SX.findK, SX.evBuiltin, SX.ints, SX.foldI, SX.evBin, SX.evInt, SX.evStr, SX.evEq, SX.arith, SX.evLoad, SX.shapeUp, SX.evFieldAddr, SX.evField, SX.evIndexAddr, SX.evIndex, SX.evFill, SX.evBuild, SX.szs, SX.cellsV, SX.evNew, SX.evStore, SX.spliceL, SX.SV.cells, SX.evConv, SX.evSlice, SX.bnd, SX.evNil, SX.evUn, SX.evPick, SX.pickOpd, SX.popTo, SX.cnd, SX.env0, SX.TD.isAgg, SX.TD.isIface, SX.tails, SX.NotAgg, SX.evLookup, SX.evConvH, SX.evPtrEq, SX.isCells, SX.thaw, SX.frz, SX.fixB, SX.rootIx, SX.Froz, SX.frzStep, SX.fork, Go.Value.cells, Go.undef, cfg33, h1, h2']
    refine ⟨by (unfold SX.Ob; first | trivial | omega | ((try simp only [SX.inK]); (try simp [SX.den, SX.IsU8, SX.AllP, *]); (try omega))), ?_⟩
    intro a5 w5 hr5 _
    exact post_retn (end1 hr5 rfl rfl ⟨by rw [hc], hr5.keeps.toBelow⟩).1
  · have hc : cmpI x y = 0 := by rw [cmpI, if_neg h1, if_neg h2']
    refine seg cfg33_ok mixed PanicFree.body 1000 [false, false, false, false] [] h4 (by first | trivial | exact HpRep.nil | assumption) (by kernel_rfl) fun s_ hs_ => ?_
    simp (maxSteps := 10000000) [SX.vc, SX.stop, SX.contS, SX.contB, SX.contW, SX.contR, SX.contD, SX.sxStep, SX.stepPure, SX.stepNew, SX.stepStore, SX.stepKeep, SX.guardIx, SX.evOp, SX.opd, SX.opds, SX.optOpd, SX.look, SX.putS, SX.gobs, SX.AllP, SX.leave, SX.lookC, SX.lookB, SX.lookT, SX.lookN, SX.findK, SX.evBuiltin, SX.ints, SX.foldI, SX.evBin, SX.evInt, SX.evStr, SX.evEq, SX.arith, SX.evLoad, SX.shapeUp, SX.evFieldAddr, SX.evField, SX.evIndexAddr, SX.evIndex, SX.evFill, SX.evBuild, SX.szs, SX.cellsV, SX.evNew, SX.evStore, SX.spliceL, SX.SV.cells, SX.evConv, SX.evSlice, SX.bnd, SX.evNil, SX.evUn, SX.evPick, SX.pickOpd, SX.popTo, SX.cnd, SX.env0, SX.TD.isAgg, SX.TD.isIface, SX.tails, SX.NotAgg, SX.evLookup, SX.evConvH, SX.evPtrEq, SX.isCells, SX.thaw, SX.frz, SX.fixB, SX.rootIx, SX.Froz, SX.frzStep, SX.fork, Go.Value.cells, Go.undef, cfg33, h1, h2']
    refine ⟨by (unfold SX.Ob; first | trivial | omega | ((try simp only [SX.inK]); (try simp [SX.den, SX.IsU8, SX.AllP, *]); (try omega))), ?_⟩
    intro a5 w5 hr5 _
    exact post_retn (end1 hr5 rfl rfl ⟨by rw [hc], hr5.keeps.toBelow⟩).1

end Go.Proofs
