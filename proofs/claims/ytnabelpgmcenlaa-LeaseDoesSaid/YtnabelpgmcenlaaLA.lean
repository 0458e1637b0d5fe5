/- Leases: what a table is; the program's Check. -/
import Derived.Test.YtnabelpgmcenlaaLT
import Derived.Test.YtnabelpgmcenlaaSxP
namespace Go.Proofs
set_option linter.unusedVariables false
set_option linter.unusedSimpArgs false
open Go Go.SX Go.RowKit

theorem callable (n : Nat) {fn : Func} (h : Try.prog.funcs[n]? = some fn) (h2 : (fn.name == "runtime.NumGoroutine") = false := by kernel_rfl) (h3 : fn.body.isNone = false := by kernel_rfl) : Callable Try.prog n := ⟨fn, h, h2, h3⟩

theorem HpRep_below {H : Hp} {w w' : World} (h : HpRep H w) (hb : Below w.heap.size w w') : HpRep H w' := fun i b m o hi => SO.rep_same (h i b m o hi) (hb.block b (SO.rep_lt (h i b m o hi)))

structure Lse where
  k : Int
  h : Int
  e : Int
  u : Int
deriving DecidableEq

def lse0 : Lse := ⟨0, 0, 0, 0⟩
def lseC (e : Lse) : List SV := [.v (.int .i64 e.k), .v (.int .i64 e.h), .v (.int .i64 e.e), .v (.int .i64 e.u)]
abbrev RdL := RdS lseC 4 lse0
abbrev OwL := OwS lseC 4 lse0
def intC (x : Int) : List SV := [.v (.int .i64 x)]
abbrev RdI := RdS intC 1 (0 : Int)
abbrev OwI := OwS intC 1 (0 : Int)

/-- A call that tells something, and changes nothing that was there. -/
def Ret (w : World) (v : SV) (e : Ending) (w' : World) : Prop := e = .returned (den v) ∧ Below w.heap.size w w'

theorem ret_dec {b : Bool} {p : Prop} [Decidable p] (h : b = true ↔ p) : Ending.returned (den (.v (.bool b))) = Ending.returned (den (.v (.bool (decide p)))) := by
  simp only [den]
  congr 2
  rw [Bool.eq_iff_iff, h]
  simp

theorem flatL (L : List Lse) : ∀ x ∈ L, ∀ c ∈ lseC x, NotAgg (den c) := by
  intro x _ c hc
  simp only [lseC, List.mem_cons, List.not_mem_nil, or_false] at hc
  rcases hc with rfl | rfl | rfl | rfl <;> trivial
theorem flatI (L : List Int) : ∀ x ∈ L, ∀ c ∈ intC x, NotAgg (den c) := by
  intro x _ c hc
  simp only [intC, List.mem_cons, List.not_mem_nil, or_false] at hc
  subst hc
  trivial
theorem OwS.nil {α : Type} {enc : α → List SV} {sz : Nat} {d : α} {P : Nat → Prop} {w : World} : OwS enc sz d P w (.slice none 0 0) [] := .inl ⟨rfl, none, rfl⟩

/-- A lease that may be, behind some others. -/
def OneL (last now prev : Int) (met : List Int) (s : Lse) : Prop := prev < s.k ∧ 0 ≤ s.h ∧ s.h < 8 ∧ 1 ≤ s.e ∧ s.e ≤ last ∧ now < s.u ∧ s.e ∉ met
instance (last now prev : Int) (met : List Int) (s : Lse) : Decidable (OneL last now prev met s) := by unfold OneL; infer_instance
/-- Leases that may be. -/
def ChkL (last now : Int) (prev : Int) (met : List Int) : List Lse → Prop
  | [] => True
  | s :: r => OneL last now prev met s ∧ ChkL last now s.k (s.e :: met) r
instance : ∀ (last now prev : Int) (met : List Int) (L : List Lse), Decidable (ChkL last now prev met L)
  | _, _, _, _, [] => isTrue trivial
  | last, now, prev, met, s :: r => by
    unfold ChkL
    have := instDecidableChkL last now s.k (s.e :: met) r
    infer_instance
/-- A table. -/
structure Tab where
  last : Int
  now : Int
  L : List Lse
deriving DecidableEq
def ChkT (t : Tab) : Prop := ChkL t.last t.now (-1) [] t.L ∧ 0 ≤ t.last ∧ 0 ≤ t.now
instance (t : Tab) : Decidable (ChkT t) := by unfold ChkT; infer_instance
def chkT (t : Tab) : Int := if ChkT t then 0 else 1
/-- A table as it is handed about. -/
def tabC (t : Tab) (v : Value) : List SV := [.v (.int .i64 t.last), .v (.int .i64 t.now), .v v]

/-- A set of numbers as a map. -/
def hasM (M : List Int) : Int → Option SV := fun b => if b ∈ M then some (.v (.bool true)) else none
theorem updFn_hasM (M : List Int) (k : Int) : updFn (hasM M) k (.v (.bool true)) = hasM (k :: M) := by
  funext j
  unfold updFn hasM
  by_cases h : j = k <;> simp [h]

def CkLoop (w : World) (t : Tab) (v : Value) (c1 cM : Nat) (m : Nat) (a : Act) (w' : World) : Prop :=
  ∃ (k : Nat) (prev : Int) (met : List Int), m = t.L.length - k ∧ k ≤ t.L.length ∧ (ChkL t.last t.now (-1) [] t.L ↔ ChkL t.last t.now prev met (t.L.drop k)) ∧
    RepX (frame0 w) ⟨[(12, 0, .v (.int .i64 k)), (11, 0, .v (.int .i64 t.L.length)), (10, 0, .v v), (4, 0, .v (.int .i64 prev)), (3, 0, .mp 1 cM), (1, 0, .ptr 0 c1 0), (2, 0, .v (.int .i64 0))], [(c1, true, .cells (tabC t v) 24), (cM, true, .imap (hasM met))], 0, 0, 72, [], [], []⟩ a w'

set_option maxRecDepth 100000 in
set_option maxHeartbeats 16000000 in
/-- Check. -/
theorem check_ok {P : Nat → Prop} (w : World) (v : Value) (t : Tab) (hL : RdL P w v t.L) (hn : t.L.length ≤ 1000000000000000) : Calls Try.prog 25 (denL [.ag (tabC t v)]).toArray w (Ret w (.v (.int .i64 (chkT t)))) := by
  obtain ⟨ad, cp, rfl⟩ := hL.slice
  refine enter (F := frame0 w) Try.func25 rfl [.ag (tabC t (.slice ad t.L.length cp))] [] (by simp [Try.f25]) trivial (keeps0 w) fun a hr => ?_
  refine seg cfg25_ok mixed PanicFree.body 1000 [] [] hr (by first | trivial | exact HpRep.nil | assumption) (by kernel_rfl) fun s1 hs1 => ?_
  simp (maxSteps := 10000000) [SX.vc, SX.stop, SX.contS, SX.contB, SX.contW, SX.contR, SX.contD, SX.sxStep, SX.stepPure, SX.stepNew, SX.stepStore, SX.stepKeep, SX.guardIx, SX.evOp, SX.opd, SX.opds, SX.optOpd, SX.look, SX.putS, SX.gobs, SX.AllP, SX.leave, SX.lookC, SX.lookB, SX.lookT, SX.lookN, SX.findK, SX.evBuiltin, SX.ints, SX.foldI, SX.evBin, SX.evInt, SX.evStr, SX.evEq, SX.arith, SX.evLoad, SX.shapeUp, SX.evFieldAddr, SX.evField, SX.evIndexAddr, SX.evIndex, SX.evFill, SX.evBuild, SX.szs, SX.cellsV, SX.evNew, SX.evStore, SX.spliceL, SX.SV.cells, SX.evConv, SX.evSlice, SX.bnd, SX.evNil, SX.evUn, SX.evPick, SX.pickOpd, SX.popTo, SX.cnd, SX.env0, SX.TD.isAgg, SX.TD.isIface, SX.tails, SX.NotAgg, SX.evLookup, SX.evConvH, SX.evPtrEq, SX.isCells, SX.thaw, SX.frz, SX.fixB, SX.rootIx, SX.Froz, SX.frzStep, SX.fork, Go.Value.cells, Go.undef, cfg25, Try.f25, tabC]
  refine ⟨by (unfold SX.Ob; first | trivial | omega | ((try simp only [SX.inK]); (try simp [SX.den, SX.IsU8, SX.AllP, *]); (try omega))), ?_⟩
  intro a1 w1 hr1 _
  refine post_loop (CkLoop w t (.slice ad t.L.length cp) s1 (s1 + 1)) t.L.length ⟨0, -1, [], rfl, by omega, Iff.rfl, hr1.re (by simp [envTo, SX.look, den]) ⟨⟨hr1.all.1.1, hr1.all.1.2.1, by simp⟩, ⟨by rw [show hasM [] = fun _ => none from by funext x; simp [hasM]]; exact hr1.all.2.1.1, hr1.all.2.1.2.1, by simp⟩, trivial⟩ rfl rfl⟩ ?_
  rintro m a2 w2 ⟨k, prev, met, rfl, hk, hi, hr2⟩
  have hA2 := hr2.all
  by_cases hlt : k < t.L.length
  · obtain ⟨b, o0, cap, u, fz, hP, hv, hrep⟩ := hL.opn hlt
    cases hv
    have hbw := SO.rep_lt hrep
    have hrep2 := SO.rep_same hrep (hr2.keeps.toBelow.block _ hbw)
    obtain ⟨x, hx⟩ : ∃ x, nth lse0 t.L k = x := ⟨_, rfl⟩
    rw [drop_nth (d := lse0) hlt, hx, ChkL] at hi
    have hbad : ¬ OneL t.last t.now prev met x → chkT t = 1 := fun h => if_neg fun hc => h (hi.1 hc.1).1
    have h2 := (hr2.top 10 (.sl 2 b o0 0 t.L.length cp 4) rfl (by simp [den])).see [(s1, true, .cells (tabC t (.slice (some ⟨b, o0, none⟩) t.L.length cp)) 24), (s1 + 1, true, .imap (hasM met)), (b, false, .arr o0 t.L.length (fun j => lseC (nth lse0 t.L j)) 4 u fz)] ⟨⟨hA2.1.1, hA2.1.2.1, by simp; omega⟩, ⟨hA2.2.1.1, hA2.2.1.2.1, by simp; omega⟩, HpAll.one hrep2⟩
    by_cases c1 : prev < x.k
    rotate_left
    · refine seg cfg25_ok mixed PanicFree.body 1000 [true, true] [(20, false), (25, false), (30, false), (35, false), (42, false), (49, false)] h2 (by first | trivial | exact HpRep.nil | assumption) (by kernel_rfl) fun s_ hs_ => ?_
      simp (maxSteps := 10000000) [SX.vc, SX.stop, SX.contS, SX.contB, SX.contW, SX.contR, SX.contD, SX.sxStep, SX.stepPure, SX.stepNew, SX.stepStore, SX.stepKeep, SX.guardIx, SX.evOp, SX.opd, SX.opds, SX.optOpd, SX.look, SX.putS, SX.gobs, SX.AllP, SX.leave, SX.lookC, SX.lookB, SX.lookT, SX.lookN, SX.findK, SX.evBuiltin, SX.ints, SX.foldI, SX.evBin, SX.evInt, SX.evStr, SX.evEq, SX.arith, SX.evLoad, SX.shapeUp, SX.evFieldAddr, SX.evField, SX.evIndexAddr, SX.evIndex, SX.evFill, SX.evBuild, SX.szs, SX.cellsV, SX.evNew, SX.evStore, SX.spliceL, SX.SV.cells, SX.evConv, SX.evSlice, SX.bnd, SX.evNil, SX.evUn, SX.evPick, SX.pickOpd, SX.popTo, SX.cnd, SX.env0, SX.TD.isAgg, SX.TD.isIface, SX.tails, SX.NotAgg, SX.evLookup, SX.evConvH, SX.evPtrEq, SX.isCells, SX.thaw, SX.frz, SX.fixB, SX.rootIx, SX.Froz, SX.frzStep, SX.fork, Go.Value.cells, Go.undef, cfg25, tabC, lseC, hx, c1]
      refine ⟨by (unfold SX.Ob; first | trivial | omega | ((try simp only [SX.inK]); (try simp [SX.den, SX.IsU8, SX.AllP, *]); (try omega))), ?_⟩
      intro a3 w3 hr3 _
      exact post_retn (end1 hr3 rfl rfl ⟨by rw [hbad fun h => c1 h.1], hr3.keeps.toBelow⟩).1
    by_cases c2 : 0 ≤ x.h
    rotate_left
    · refine seg cfg25_ok mixed PanicFree.body 1000 [true, true] [(20, true), (25, false), (30, false), (35, false), (42, false), (49, false)] h2 (by first | trivial | exact HpRep.nil | assumption) (by kernel_rfl) fun s_ hs_ => ?_
      simp (maxSteps := 10000000) [SX.vc, SX.stop, SX.contS, SX.contB, SX.contW, SX.contR, SX.contD, SX.sxStep, SX.stepPure, SX.stepNew, SX.stepStore, SX.stepKeep, SX.guardIx, SX.evOp, SX.opd, SX.opds, SX.optOpd, SX.look, SX.putS, SX.gobs, SX.AllP, SX.leave, SX.lookC, SX.lookB, SX.lookT, SX.lookN, SX.findK, SX.evBuiltin, SX.ints, SX.foldI, SX.evBin, SX.evInt, SX.evStr, SX.evEq, SX.arith, SX.evLoad, SX.shapeUp, SX.evFieldAddr, SX.evField, SX.evIndexAddr, SX.evIndex, SX.evFill, SX.evBuild, SX.szs, SX.cellsV, SX.evNew, SX.evStore, SX.spliceL, SX.SV.cells, SX.evConv, SX.evSlice, SX.bnd, SX.evNil, SX.evUn, SX.evPick, SX.pickOpd, SX.popTo, SX.cnd, SX.env0, SX.TD.isAgg, SX.TD.isIface, SX.tails, SX.NotAgg, SX.evLookup, SX.evConvH, SX.evPtrEq, SX.isCells, SX.thaw, SX.frz, SX.fixB, SX.rootIx, SX.Froz, SX.frzStep, SX.fork, Go.Value.cells, Go.undef, cfg25, tabC, lseC, hx, c1, c2]
      refine ⟨by (unfold SX.Ob; first | trivial | omega | ((try simp only [SX.inK]); (try simp [SX.den, SX.IsU8, SX.AllP, *]); (try omega))), ?_⟩
      intro a3 w3 hr3 _
      exact post_retn (end1 hr3 rfl rfl ⟨by rw [hbad fun h => c2 h.2.1], hr3.keeps.toBelow⟩).1
    by_cases c3 : x.h < 8
    rotate_left
    · refine seg cfg25_ok mixed PanicFree.body 1000 [true, true] [(20, true), (25, true), (30, false), (35, false), (42, false), (49, false)] h2 (by first | trivial | exact HpRep.nil | assumption) (by kernel_rfl) fun s_ hs_ => ?_
      simp (maxSteps := 10000000) [SX.vc, SX.stop, SX.contS, SX.contB, SX.contW, SX.contR, SX.contD, SX.sxStep, SX.stepPure, SX.stepNew, SX.stepStore, SX.stepKeep, SX.guardIx, SX.evOp, SX.opd, SX.opds, SX.optOpd, SX.look, SX.putS, SX.gobs, SX.AllP, SX.leave, SX.lookC, SX.lookB, SX.lookT, SX.lookN, SX.findK, SX.evBuiltin, SX.ints, SX.foldI, SX.evBin, SX.evInt, SX.evStr, SX.evEq, SX.arith, SX.evLoad, SX.shapeUp, SX.evFieldAddr, SX.evField, SX.evIndexAddr, SX.evIndex, SX.evFill, SX.evBuild, SX.szs, SX.cellsV, SX.evNew, SX.evStore, SX.spliceL, SX.SV.cells, SX.evConv, SX.evSlice, SX.bnd, SX.evNil, SX.evUn, SX.evPick, SX.pickOpd, SX.popTo, SX.cnd, SX.env0, SX.TD.isAgg, SX.TD.isIface, SX.tails, SX.NotAgg, SX.evLookup, SX.evConvH, SX.evPtrEq, SX.isCells, SX.thaw, SX.frz, SX.fixB, SX.rootIx, SX.Froz, SX.frzStep, SX.fork, Go.Value.cells, Go.undef, cfg25, tabC, lseC, hx, c1, c2, c3]
      refine ⟨by (unfold SX.Ob; first | trivial | omega | ((try simp only [SX.inK]); (try simp [SX.den, SX.IsU8, SX.AllP, *]); (try omega))), ?_⟩
      intro a3 w3 hr3 _
      exact post_retn (end1 hr3 rfl rfl ⟨by rw [hbad fun h => c3 h.2.2.1], hr3.keeps.toBelow⟩).1
    by_cases c4 : 1 ≤ x.e
    rotate_left
    · refine seg cfg25_ok mixed PanicFree.body 1000 [true, true] [(20, true), (25, true), (30, true), (35, false), (42, false), (49, false)] h2 (by first | trivial | exact HpRep.nil | assumption) (by kernel_rfl) fun s_ hs_ => ?_
      simp (maxSteps := 10000000) [SX.vc, SX.stop, SX.contS, SX.contB, SX.contW, SX.contR, SX.contD, SX.sxStep, SX.stepPure, SX.stepNew, SX.stepStore, SX.stepKeep, SX.guardIx, SX.evOp, SX.opd, SX.opds, SX.optOpd, SX.look, SX.putS, SX.gobs, SX.AllP, SX.leave, SX.lookC, SX.lookB, SX.lookT, SX.lookN, SX.findK, SX.evBuiltin, SX.ints, SX.foldI, SX.evBin, SX.evInt, SX.evStr, SX.evEq, SX.arith, SX.evLoad, SX.shapeUp, SX.evFieldAddr, SX.evField, SX.evIndexAddr, SX.evIndex, SX.evFill, SX.evBuild, SX.szs, SX.cellsV, SX.evNew, SX.evStore, SX.spliceL, SX.SV.cells, SX.evConv, SX.evSlice, SX.bnd, SX.evNil, SX.evUn, SX.evPick, SX.pickOpd, SX.popTo, SX.cnd, SX.env0, SX.TD.isAgg, SX.TD.isIface, SX.tails, SX.NotAgg, SX.evLookup, SX.evConvH, SX.evPtrEq, SX.isCells, SX.thaw, SX.frz, SX.fixB, SX.rootIx, SX.Froz, SX.frzStep, SX.fork, Go.Value.cells, Go.undef, cfg25, tabC, lseC, hx, c1, c2, c3, c4]
      refine ⟨by (unfold SX.Ob; first | trivial | omega | ((try simp only [SX.inK]); (try simp [SX.den, SX.IsU8, SX.AllP, *]); (try omega))), ?_⟩
      intro a3 w3 hr3 _
      exact post_retn (end1 hr3 rfl rfl ⟨by rw [hbad fun h => c4 h.2.2.2.1], hr3.keeps.toBelow⟩).1
    by_cases c5 : x.e ≤ t.last
    rotate_left
    · refine seg cfg25_ok mixed PanicFree.body 1000 [true, true] [(20, true), (25, true), (30, true), (35, true), (42, false), (49, false)] h2 (by first | trivial | exact HpRep.nil | assumption) (by kernel_rfl) fun s_ hs_ => ?_
      simp (maxSteps := 10000000) [SX.vc, SX.stop, SX.contS, SX.contB, SX.contW, SX.contR, SX.contD, SX.sxStep, SX.stepPure, SX.stepNew, SX.stepStore, SX.stepKeep, SX.guardIx, SX.evOp, SX.opd, SX.opds, SX.optOpd, SX.look, SX.putS, SX.gobs, SX.AllP, SX.leave, SX.lookC, SX.lookB, SX.lookT, SX.lookN, SX.findK, SX.evBuiltin, SX.ints, SX.foldI, SX.evBin, SX.evInt, SX.evStr, SX.evEq, SX.arith, SX.evLoad, SX.shapeUp, SX.evFieldAddr, SX.evField, SX.evIndexAddr, SX.evIndex, SX.evFill, SX.evBuild, SX.szs, SX.cellsV, SX.evNew, SX.evStore, SX.spliceL, SX.SV.cells, SX.evConv, SX.evSlice, SX.bnd, SX.evNil, SX.evUn, SX.evPick, SX.pickOpd, SX.popTo, SX.cnd, SX.env0, SX.TD.isAgg, SX.TD.isIface, SX.tails, SX.NotAgg, SX.evLookup, SX.evConvH, SX.evPtrEq, SX.isCells, SX.thaw, SX.frz, SX.fixB, SX.rootIx, SX.Froz, SX.frzStep, SX.fork, Go.Value.cells, Go.undef, cfg25, tabC, lseC, hx, c1, c2, c3, c4, c5]
      refine ⟨by (unfold SX.Ob; first | trivial | omega | ((try simp only [SX.inK]); (try simp [SX.den, SX.IsU8, SX.AllP, *]); (try omega))), ?_⟩
      intro a3 w3 hr3 _
      exact post_retn (end1 hr3 rfl rfl ⟨by rw [hbad fun h => c5 h.2.2.2.2.1], hr3.keeps.toBelow⟩).1
    by_cases c6 : t.now < x.u
    rotate_left
    · refine seg cfg25_ok mixed PanicFree.body 1000 [true, true] [(20, true), (25, true), (30, true), (35, true), (42, true), (49, false)] h2 (by first | trivial | exact HpRep.nil | assumption) (by kernel_rfl) fun s_ hs_ => ?_
      simp (maxSteps := 10000000) [SX.vc, SX.stop, SX.contS, SX.contB, SX.contW, SX.contR, SX.contD, SX.sxStep, SX.stepPure, SX.stepNew, SX.stepStore, SX.stepKeep, SX.guardIx, SX.evOp, SX.opd, SX.opds, SX.optOpd, SX.look, SX.putS, SX.gobs, SX.AllP, SX.leave, SX.lookC, SX.lookB, SX.lookT, SX.lookN, SX.findK, SX.evBuiltin, SX.ints, SX.foldI, SX.evBin, SX.evInt, SX.evStr, SX.evEq, SX.arith, SX.evLoad, SX.shapeUp, SX.evFieldAddr, SX.evField, SX.evIndexAddr, SX.evIndex, SX.evFill, SX.evBuild, SX.szs, SX.cellsV, SX.evNew, SX.evStore, SX.spliceL, SX.SV.cells, SX.evConv, SX.evSlice, SX.bnd, SX.evNil, SX.evUn, SX.evPick, SX.pickOpd, SX.popTo, SX.cnd, SX.env0, SX.TD.isAgg, SX.TD.isIface, SX.tails, SX.NotAgg, SX.evLookup, SX.evConvH, SX.evPtrEq, SX.isCells, SX.thaw, SX.frz, SX.fixB, SX.rootIx, SX.Froz, SX.frzStep, SX.fork, Go.Value.cells, Go.undef, cfg25, tabC, lseC, hx, c1, c2, c3, c4, c5, c6]
      refine ⟨by (unfold SX.Ob; first | trivial | omega | ((try simp only [SX.inK]); (try simp [SX.den, SX.IsU8, SX.AllP, *]); (try omega))), ?_⟩
      intro a3 w3 hr3 _
      exact post_retn (end1 hr3 rfl rfl ⟨by rw [hbad fun h => c6 h.2.2.2.2.2.1], hr3.keeps.toBelow⟩).1
    by_cases c7 : x.e ∈ met
    · have hW : hasM met x.e = some (.v (.bool true)) := if_pos c7
      refine seg cfg25_ok mixed PanicFree.body 1000 [true, true] [(20, true), (25, true), (30, true), (35, true), (42, true), (49, true)] h2 (by first | trivial | exact HpRep.nil | assumption) (by kernel_rfl) fun s_ hs_ => ?_
      simp (maxSteps := 10000000) [SX.vc, SX.stop, SX.contS, SX.contB, SX.contW, SX.contR, SX.contD, SX.sxStep, SX.stepPure, SX.stepNew, SX.stepStore, SX.stepKeep, SX.guardIx, SX.evOp, SX.opd, SX.opds, SX.optOpd, SX.look, SX.putS, SX.gobs, SX.AllP, SX.leave, SX.lookC, SX.lookB, SX.lookT, SX.lookN, SX.findK, SX.evBuiltin, SX.ints, SX.foldI, SX.evBin, SX.evInt, SX.evStr, SX.evEq, SX.arith, SX.evLoad, SX.shapeUp, SX.evFieldAddr, SX.evField, SX.evIndexAddr, SX.evIndex, SX.evFill, SX.evBuild, SX.szs, SX.cellsV, SX.evNew, SX.evStore, SX.spliceL, SX.SV.cells, SX.evConv, SX.evSlice, SX.bnd, SX.evNil, SX.evUn, SX.evPick, SX.pickOpd, SX.popTo, SX.cnd, SX.env0, SX.TD.isAgg, SX.TD.isIface, SX.tails, SX.NotAgg, SX.evLookup, SX.evConvH, SX.evPtrEq, SX.isCells, SX.thaw, SX.frz, SX.fixB, SX.rootIx, SX.Froz, SX.frzStep, SX.fork, Go.Value.cells, Go.undef, cfg25, tabC, lseC, hx, c1, c2, c3, c4, c5, c6, hW]
      refine ⟨by (unfold SX.Ob; first | trivial | omega | ((try simp only [SX.inK]); (try simp [SX.den, SX.IsU8, SX.AllP, *]); (try omega))), ?_⟩
      intro a3 w3 hr3 _
      exact post_retn (end1 hr3 rfl rfl ⟨by rw [hbad fun h => h.2.2.2.2.2.2 c7], hr3.keeps.toBelow⟩).1
    · have hW : hasM met x.e = none := if_neg c7
      refine seg cfg25_ok mixed PanicFree.body 1000 [true, false] [(20, true), (25, true), (30, true), (35, true), (42, true), (49, true)] h2 (by first | trivial | exact HpRep.nil | assumption) (by kernel_rfl) fun s_ hs_ => ?_
      simp (maxSteps := 10000000) [SX.vc, SX.stop, SX.contS, SX.contB, SX.contW, SX.contR, SX.contD, SX.sxStep, SX.stepPure, SX.stepNew, SX.stepStore, SX.stepKeep, SX.guardIx, SX.evOp, SX.opd, SX.opds, SX.optOpd, SX.look, SX.putS, SX.gobs, SX.AllP, SX.leave, SX.lookC, SX.lookB, SX.lookT, SX.lookN, SX.findK, SX.evBuiltin, SX.ints, SX.foldI, SX.evBin, SX.evInt, SX.evStr, SX.evEq, SX.arith, SX.evLoad, SX.shapeUp, SX.evFieldAddr, SX.evField, SX.evIndexAddr, SX.evIndex, SX.evFill, SX.evBuild, SX.szs, SX.cellsV, SX.evNew, SX.evStore, SX.spliceL, SX.SV.cells, SX.evConv, SX.evSlice, SX.bnd, SX.evNil, SX.evUn, SX.evPick, SX.pickOpd, SX.popTo, SX.cnd, SX.env0, SX.TD.isAgg, SX.TD.isIface, SX.tails, SX.NotAgg, SX.evLookup, SX.evConvH, SX.evPtrEq, SX.isCells, SX.thaw, SX.frz, SX.fixB, SX.rootIx, SX.Froz, SX.frzStep, SX.fork, Go.Value.cells, Go.undef, cfg25, tabC, lseC, hx, c1, c2, c3, c4, c5, c6, hW, updFn_hasM]
      refine ⟨by (unfold SX.Ob; first | trivial | omega | ((try simp only [SX.inK]); (try simp [SX.den, SX.IsU8, SX.AllP, *]); (try omega))), ?_⟩
      intro a3 w3 hr3 _
      exact post_rnd (t.L.length - (k + 1)) (by omega) ⟨k + 1, x.k, x.e :: met, rfl, hlt, hi.trans ⟨fun h => h.2, fun h => ⟨⟨c1, c2, c3, c4, c5, c6, c7⟩, h⟩⟩, hr3.re (by simp [envTo, SX.look, den]) ⟨⟨hr3.all.1.1, hr3.all.1.2.1, by simp⟩, ⟨hr3.all.2.1.1, hr3.all.2.1.2.1, by simp⟩, trivial⟩ rfl rfl⟩
  · obtain rfl : k = t.L.length := by omega
    simp only [List.drop_length, ChkL, iff_true] at hi
    by_cases c1 : t.last < 0
    · have hc : chkT t = 1 := if_neg fun h => by have := h.2.1; omega
      refine seg cfg25_ok mixed PanicFree.body 1000 [false, true] [(67, true)] hr2 (by first | trivial | exact HpRep.nil | assumption) (by kernel_rfl) fun s_ hs_ => ?_
      simp (maxSteps := 10000000) [SX.vc, SX.stop, SX.contS, SX.contB, SX.contW, SX.contR, SX.contD, SX.sxStep, SX.stepPure, SX.stepNew, SX.stepStore, SX.stepKeep, SX.guardIx, SX.evOp, SX.opd, SX.opds, SX.optOpd, SX.look, SX.putS, SX.gobs, SX.AllP, SX.leave, SX.lookC, SX.lookB, SX.lookT, SX.lookN, SX.findK, SX.evBuiltin, SX.ints, SX.foldI, SX.evBin, SX.evInt, SX.evStr, SX.evEq, SX.arith, SX.evLoad, SX.shapeUp, SX.evFieldAddr, SX.evField, SX.evIndexAddr, SX.evIndex, SX.evFill, SX.evBuild, SX.szs, SX.cellsV, SX.evNew, SX.evStore, SX.spliceL, SX.SV.cells, SX.evConv, SX.evSlice, SX.bnd, SX.evNil, SX.evUn, SX.evPick, SX.pickOpd, SX.popTo, SX.cnd, SX.env0, SX.TD.isAgg, SX.TD.isIface, SX.tails, SX.NotAgg, SX.evLookup, SX.evConvH, SX.evPtrEq, SX.isCells, SX.thaw, SX.frz, SX.fixB, SX.rootIx, SX.Froz, SX.frzStep, SX.fork, Go.Value.cells, Go.undef, cfg25, tabC, c1]
      refine ⟨by (unfold SX.Ob; first | trivial | omega | ((try simp only [SX.inK]); (try simp [SX.den, SX.IsU8, SX.AllP, *]); (try omega))), ?_⟩
      intro a3 w3 hr3 _
      exact post_retn (end1 hr3 rfl rfl ⟨by rw [hc], hr3.keeps.toBelow⟩).1
    by_cases c2 : t.now < 0
    · have hc : chkT t = 1 := if_neg fun h => by have := h.2.2; omega
      refine seg cfg25_ok mixed PanicFree.body 1000 [false, true] [(67, false)] hr2 (by first | trivial | exact HpRep.nil | assumption) (by kernel_rfl) fun s_ hs_ => ?_
      simp (maxSteps := 10000000) [SX.vc, SX.stop, SX.contS, SX.contB, SX.contW, SX.contR, SX.contD, SX.sxStep, SX.stepPure, SX.stepNew, SX.stepStore, SX.stepKeep, SX.guardIx, SX.evOp, SX.opd, SX.opds, SX.optOpd, SX.look, SX.putS, SX.gobs, SX.AllP, SX.leave, SX.lookC, SX.lookB, SX.lookT, SX.lookN, SX.findK, SX.evBuiltin, SX.ints, SX.foldI, SX.evBin, SX.evInt, SX.evStr, SX.evEq, SX.arith, SX.evLoad, SX.shapeUp, SX.evFieldAddr, SX.evField, SX.evIndexAddr, SX.evIndex, SX.evFill, SX.evBuild, SX.szs, SX.cellsV, SX.evNew, SX.evStore, SX.spliceL, SX.SV.cells, SX.evConv, SX.evSlice, SX.bnd, SX.evNil, SX.evUn, SX.evPick, SX.pickOpd, SX.popTo, SX.cnd, SX.env0, SX.TD.isAgg, SX.TD.isIface, SX.tails, SX.NotAgg, SX.evLookup, SX.evConvH, SX.evPtrEq, SX.isCells, SX.thaw, SX.frz, SX.fixB, SX.rootIx, SX.Froz, SX.frzStep, SX.fork, Go.Value.cells, Go.undef, cfg25, tabC, c1, c2]
      refine ⟨by (unfold SX.Ob; first | trivial | omega | ((try simp only [SX.inK]); (try simp [SX.den, SX.IsU8, SX.AllP, *]); (try omega))), ?_⟩
      intro a3 w3 hr3 _
      exact post_retn (end1 hr3 rfl rfl ⟨by rw [hc], hr3.keeps.toBelow⟩).1
    have hc : chkT t = 0 := if_pos ⟨hi, by omega, by omega⟩
    refine seg cfg25_ok mixed PanicFree.body 1000 [false, false] [(67, false)] hr2 (by first | trivial | exact HpRep.nil | assumption) (by kernel_rfl) fun s_ hs_ => ?_
    simp (maxSteps := 10000000) [SX.vc, SX.stop, SX.contS, SX.contB, SX.contW, SX.contR, SX.contD, SX.sxStep, SX.stepPure, SX.stepNew, SX.stepStore, SX.stepKeep, SX.guardIx, SX.evOp, SX.opd, SX.opds, SX.optOpd, SX.look, SX.putS, SX.gobs, SX.AllP, SX.leave, SX.lookC, SX.lookB, SX.lookT, SX.lookN, SX.findK, SX.evBuiltin, SX.ints, SX.foldI, SX.evBin, SX.evInt, SX.evStr, SX.evEq, SX.arith, SX.evLoad, SX.shapeUp, SX.evFieldAddr, SX.evField, SX.evIndexAddr, SX.evIndex, SX.evFill, SX.evBuild, SX.szs, SX.cellsV, SX.evNew, SX.evStore, SX.spliceL, SX.SV.cells, SX.evConv, SX.evSlice, SX.bnd, SX.evNil, SX.evUn, SX.evPick, SX.pickOpd, SX.popTo, SX.cnd, SX.env0, SX.TD.isAgg, SX.TD.isIface, SX.tails, SX.NotAgg, SX.evLookup, SX.evConvH, SX.evPtrEq, SX.isCells, SX.thaw, SX.frz, SX.fixB, SX.rootIx, SX.Froz, SX.frzStep, SX.fork, Go.Value.cells, Go.undef, cfg25, tabC, c1, c2]
    refine ⟨by (unfold SX.Ob; first | trivial | omega | ((try simp only [SX.inK]); (try simp [SX.den, SX.IsU8, SX.AllP, *]); (try omega))), ?_⟩
    intro a3 w3 hr3 _
    exact post_retn (end1 hr3 rfl rfl ⟨by rw [hc], hr3.keeps.toBelow⟩).1
end Go.Proofs
