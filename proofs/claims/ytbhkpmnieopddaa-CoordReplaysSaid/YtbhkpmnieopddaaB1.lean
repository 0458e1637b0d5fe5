/- B1: texts of this proof, joined. -/
import Derived.Test.YtbhkpmnieopddaaT
import Derived.Test.YtbhkpmnieopddaaA4
set_option linter.unusedVariables false
set_option linter.unusedSimpArgs false
set_option linter.unusedSectionVars false
namespace Go.Proofs.L6
open Go Go.Proofs Go.SX Go.RowKit
theorem callable (n : Nat) {fn : Func} (h : Try.prog.funcs[n]? = some fn) (h2 : (fn.name == "runtime.NumGoroutine") = false := by kernel_rfl) (h3 : fn.body.isNone = false := by kernel_rfl) : Callable Try.prog n := ⟨fn, h, h2, h3⟩
theorem HpRep_below {H : Hp} {w w' : World} (h : HpRep H w) (hb : Below w.heap.size w w') : HpRep H w' := fun i b m o hi => SO.rep_same (h i b m o hi) (hb.block b (SO.rep_lt (h i b m o hi)))
structure Lse where
  k : Int
  h : Int
  e : Int
  u : Int
deriving DecidableEq
def lse0 : Lse := ⟨0, 0, 0, 0⟩
def lseC (e : Lse) : List SV := [.v (.int .i64 e.k), .v (.int .i64 e.h), .v (.int .i64 e.e), .v (.int .i64 e.u)]
abbrev RdL := RdS lseC 4 lse0
abbrev OwL := OwS lseC 4 lse0
def intC (x : Int) : List SV := [.v (.int .i64 x)]
abbrev RdI := RdS intC 1 (0 : Int)
abbrev OwI := OwS intC 1 (0 : Int)
def Ret (w : World) (v : SV) (e : Ending) (w' : World) : Prop := e = .returned (den v) ∧ Below w.heap.size w w'
theorem ret_dec {b : Bool} {p : Prop} [Decidable p] (h : b = true ↔ p) : Ending.returned (den (.v (.bool b))) = Ending.returned (den (.v (.bool (decide p)))) := by
  simp only [den]
  congr 2
  rw [Bool.eq_iff_iff, h]
  simp
theorem flatL (L : List Lse) : ∀ x ∈ L, ∀ c ∈ lseC x, NotAgg (den c) := by
  intro x _ c hc
  simp only [lseC, List.mem_cons, List.not_mem_nil, or_false] at hc
  rcases hc with rfl | rfl | rfl | rfl <;> trivial
theorem flatI (L : List Int) : ∀ x ∈ L, ∀ c ∈ intC x, NotAgg (den c) := by
  intro x _ c hc
  simp only [intC, List.mem_cons, List.not_mem_nil, or_false] at hc
  subst hc
  trivial
theorem OwS.nil {α : Type} {enc : α → List SV} {sz : Nat} {d : α} {P : Nat → Prop} {w : World} : OwS enc sz d P w (.slice none 0 0) [] := .inl ⟨rfl, none, rfl⟩
def OneL (last now prev : Int) (met : List Int) (s : Lse) : Prop := prev < s.k ∧ 0 ≤ s.h ∧ s.h < 8 ∧ 1 ≤ s.e ∧ s.e ≤ last ∧ now < s.u ∧ s.e ∉ met
instance (last now prev : Int) (met : List Int) (s : Lse) : Decidable (OneL last now prev met s) := by unfold OneL; infer_instance
def ChkL (last now : Int) (prev : Int) (met : List Int) : List Lse → Prop
  | [] => True
  | s :: r => OneL last now prev met s ∧ ChkL last now s.k (s.e :: met) r
instance : ∀ (last now prev : Int) (met : List Int) (L : List Lse), Decidable (ChkL last now prev met L)
  | _, _, _, _, [] => isTrue trivial
  | last, now, prev, met, s :: r => by
    unfold ChkL
    have := instDecidableChkL last now s.k (s.e :: met) r
    infer_instance
structure Tab where
  last : Int
  now : Int
  L : List Lse
deriving DecidableEq
def ChkT (t : Tab) : Prop := ChkL t.last t.now (-1) [] t.L ∧ 0 ≤ t.last ∧ 0 ≤ t.now
instance (t : Tab) : Decidable (ChkT t) := by unfold ChkT; infer_instance
def chkT (t : Tab) : Int := if ChkT t then 0 else 1
def tabC (t : Tab) (v : Value) : List SV := [.v (.int .i64 t.last), .v (.int .i64 t.now), .v v]
def hasM (M : List Int) : Int → Option SV := fun b => if b ∈ M then some (.v (.bool true)) else none
theorem updFn_hasM (M : List Int) (k : Int) : updFn (hasM M) k (.v (.bool true)) = hasM (k :: M) := by
  funext j
  unfold updFn hasM
  by_cases h : j = k <;> simp [h]
def CkLoop (w : World) (t : Tab) (v : Value) (c1 cM : Nat) (m : Nat) (a : Act) (w' : World) : Prop :=
  ∃ (k : Nat) (prev : Int) (met : List Int), m = t.L.length - k ∧ k ≤ t.L.length ∧ (ChkL t.last t.now (-1) [] t.L ↔ ChkL t.last t.now prev met (t.L.drop k)) ∧
    RepX (frame0 w) ⟨[(12, 0, .v (.int .i64 k)), (11, 0, .v (.int .i64 t.L.length)), (10, 0, .v v), (4, 0, .v (.int .i64 prev)), (3, 0, .mp 1 cM), (1, 0, .ptr 0 c1 0), (2, 0, .v (.int .i64 0))], [(c1, true, .cells (tabC t v) 27), (cM, true, .imap (hasM met))], 0, 0, 72, [], [], []⟩ a w'
set_option maxRecDepth 100000 in
set_option maxHeartbeats 16000000 in
theorem check_ok {P : Nat → Prop} (w : World) (v : Value) (t : Tab) (hL : RdL P w v t.L) (hn : t.L.length ≤ 1000000000000000) : Calls Try.prog 76 (denL [.ag (tabC t v)]).toArray w (Ret w (.v (.int .i64 (chkT t)))) := by
  obtain ⟨ad, cp, rfl⟩ := hL.slice
  refine enter (F := frame0 w) Try.func76 rfl [.ag (tabC t (.slice ad t.L.length cp))] [] (by simp [Try.f76]) trivial (keeps0 w) fun a hr => ?_
  refine seg cfg76_ok mixed PanicFree.body 1000 [] [] hr (by first | trivial | exact HpRep.nil | assumption) (by kernel_rfl) fun s1 hs1 => ?_
  simp (maxSteps := 10000000) [SX.vc, SX.stop, SX.contS, SX.sxStep, SX.stepPure, SX.stepNew, SX.guardIx, SX.evOp, SX.opd, SX.opds, SX.look, SX.putS, SX.gobs, SX.AllP, SX.leave, SX.lookT, SX.evBuiltin, SX.evLoad, SX.shapeUp, SX.evFieldAddr, SX.evNew, SX.SV.cells, SX.env0, SX.TD.isAgg, cfg76, Try.f76, tabC]
  refine ⟨by (unfold SX.Ob; first | trivial | omega | ((try simp only [SX.inK]); (try simp [SX.den, SX.IsU8, SX.AllP, *]); (try omega))), ?_⟩
  intro a1 w1 hr1 _
  refine post_loop (CkLoop w t (.slice ad t.L.length cp) s1 (s1 + 1)) t.L.length ⟨0, -1, [], rfl, by omega, Iff.rfl, hr1.re (by simp [envTo, SX.look, den]) ⟨⟨hr1.all.1.1, hr1.all.1.2.1, by simp⟩, ⟨by rw [show hasM [] = fun _ => none from by funext x; simp [hasM]]; exact hr1.all.2.1.1, hr1.all.2.1.2.1, by simp⟩, trivial⟩ rfl rfl⟩ ?_
  rintro m a2 w2 ⟨k, prev, met, rfl, hk, hi, hr2⟩
  have hA2 := hr2.all
  by_cases hlt : k < t.L.length
  · obtain ⟨b, o0, cap, u, fz, hP, hv, hrep⟩ := hL.opn hlt
    cases hv
    have hbw := SO.rep_lt hrep
    have hrep2 := SO.rep_same hrep (hr2.keeps.toBelow.block _ hbw)
    obtain ⟨x, hx⟩ : ∃ x, nth lse0 t.L k = x := ⟨_, rfl⟩
    rw [drop_nth (d := lse0) hlt, hx, ChkL] at hi
    have hbad : ¬ OneL t.last t.now prev met x → chkT t = 1 := fun h => if_neg fun hc => h (hi.1 hc.1).1
    have h2 := (hr2.top 10 (.sl 2 b o0 0 t.L.length cp 4) rfl (by simp [den])).see [(s1, true, .cells (tabC t (.slice (some ⟨b, o0, none⟩) t.L.length cp)) 27), (s1 + 1, true, .imap (hasM met)), (b, false, .arr o0 t.L.length (fun j => lseC (nth lse0 t.L j)) 4 u fz)] ⟨⟨hA2.1.1, hA2.1.2.1, by simp; omega⟩, ⟨hA2.2.1.1, hA2.2.1.2.1, by simp; omega⟩, HpAll.one hrep2⟩
    by_cases c1 : prev < x.k
    rotate_left
    · refine seg cfg76_ok mixed PanicFree.body 1000 [true, true] [(20, false), (25, false), (30, false), (35, false), (42, false), (49, false)] h2 (by first | trivial | exact HpRep.nil | assumption) (by kernel_rfl) fun s_ hs_ => ?_
      simp (maxSteps := 10000000) [SX.vc, SX.stop, SX.contS, SX.contB, SX.sxStep, SX.stepPure, SX.stepNew, SX.stepStore, SX.guardIx, SX.evOp, SX.opd, SX.look, SX.putS, SX.gobs, SX.AllP, SX.leave, SX.lookB, SX.lookT, SX.evBin, SX.evInt, SX.evLoad, SX.shapeUp, SX.evFieldAddr, SX.evIndexAddr, SX.cellsV, SX.evNew, SX.evStore, SX.spliceL, SX.SV.cells, SX.evUn, SX.evPick, SX.cnd, SX.TD.isAgg, SX.NotAgg, Go.Value.cells, Go.undef, cfg76, tabC, lseC, hx, c1]
      refine ⟨by (unfold SX.Ob; first | trivial | omega | ((try simp only [SX.inK]); (try simp [SX.den, SX.IsU8, SX.AllP, *]); (try omega))), ?_⟩
      intro a3 w3 hr3 _
      exact post_retn (end1 hr3 rfl rfl ⟨by rw [hbad fun h => c1 h.1], hr3.keeps.toBelow⟩).1
    by_cases c2 : 0 ≤ x.h
    rotate_left
    · refine seg cfg76_ok mixed PanicFree.body 1000 [true, true] [(20, true), (25, false), (30, false), (35, false), (42, false), (49, false)] h2 (by first | trivial | exact HpRep.nil | assumption) (by kernel_rfl) fun s_ hs_ => ?_
      simp (maxSteps := 10000000) [SX.vc, SX.stop, SX.contS, SX.contB, SX.sxStep, SX.stepPure, SX.stepNew, SX.stepStore, SX.guardIx, SX.evOp, SX.opd, SX.look, SX.putS, SX.gobs, SX.AllP, SX.leave, SX.lookB, SX.lookT, SX.evBin, SX.evInt, SX.evLoad, SX.shapeUp, SX.evFieldAddr, SX.evIndexAddr, SX.cellsV, SX.evNew, SX.evStore, SX.spliceL, SX.SV.cells, SX.evUn, SX.evPick, SX.cnd, SX.TD.isAgg, SX.NotAgg, Go.Value.cells, Go.undef, cfg76, tabC, lseC, hx, c1, c2]
      refine ⟨by (unfold SX.Ob; first | trivial | omega | ((try simp only [SX.inK]); (try simp [SX.den, SX.IsU8, SX.AllP, *]); (try omega))), ?_⟩
      intro a3 w3 hr3 _
      exact post_retn (end1 hr3 rfl rfl ⟨by rw [hbad fun h => c2 h.2.1], hr3.keeps.toBelow⟩).1
    by_cases c3 : x.h < 8
    rotate_left
    · refine seg cfg76_ok mixed PanicFree.body 1000 [true, true] [(20, true), (25, true), (30, false), (35, false), (42, false), (49, false)] h2 (by first | trivial | exact HpRep.nil | assumption) (by kernel_rfl) fun s_ hs_ => ?_
      simp (maxSteps := 10000000) [SX.vc, SX.stop, SX.contS, SX.contB, SX.sxStep, SX.stepPure, SX.stepNew, SX.stepStore, SX.guardIx, SX.evOp, SX.opd, SX.look, SX.putS, SX.gobs, SX.AllP, SX.leave, SX.lookB, SX.lookT, SX.evBin, SX.evInt, SX.evLoad, SX.shapeUp, SX.evFieldAddr, SX.evIndexAddr, SX.cellsV, SX.evNew, SX.evStore, SX.spliceL, SX.SV.cells, SX.evUn, SX.evPick, SX.cnd, SX.TD.isAgg, SX.NotAgg, Go.Value.cells, Go.undef, cfg76, tabC, lseC, hx, c1, c2, c3]
      refine ⟨by (unfold SX.Ob; first | trivial | omega | ((try simp only [SX.inK]); (try simp [SX.den, SX.IsU8, SX.AllP, *]); (try omega))), ?_⟩
      intro a3 w3 hr3 _
      exact post_retn (end1 hr3 rfl rfl ⟨by rw [hbad fun h => c3 h.2.2.1], hr3.keeps.toBelow⟩).1
    by_cases c4 : 1 ≤ x.e
    rotate_left
    · refine seg cfg76_ok mixed PanicFree.body 1000 [true, true] [(20, true), (25, true), (30, true), (35, false), (42, false), (49, false)] h2 (by first | trivial | exact HpRep.nil | assumption) (by kernel_rfl) fun s_ hs_ => ?_
      simp (maxSteps := 10000000) [SX.vc, SX.stop, SX.contS, SX.contB, SX.sxStep, SX.stepPure, SX.stepNew, SX.stepStore, SX.guardIx, SX.evOp, SX.opd, SX.look, SX.putS, SX.gobs, SX.AllP, SX.leave, SX.lookB, SX.lookT, SX.evBin, SX.evInt, SX.evLoad, SX.shapeUp, SX.evFieldAddr, SX.evIndexAddr, SX.cellsV, SX.evNew, SX.evStore, SX.spliceL, SX.SV.cells, SX.evUn, SX.evPick, SX.cnd, SX.TD.isAgg, SX.NotAgg, Go.Value.cells, Go.undef, cfg76, tabC, lseC, hx, c1, c2, c3, c4]
      refine ⟨by (unfold SX.Ob; first | trivial | omega | ((try simp only [SX.inK]); (try simp [SX.den, SX.IsU8, SX.AllP, *]); (try omega))), ?_⟩
      intro a3 w3 hr3 _
      exact post_retn (end1 hr3 rfl rfl ⟨by rw [hbad fun h => c4 h.2.2.2.1], hr3.keeps.toBelow⟩).1
    by_cases c5 : x.e ≤ t.last
    rotate_left
    · refine seg cfg76_ok mixed PanicFree.body 1000 [true, true] [(20, true), (25, true), (30, true), (35, true), (42, false), (49, false)] h2 (by first | trivial | exact HpRep.nil | assumption) (by kernel_rfl) fun s_ hs_ => ?_
      simp (maxSteps := 10000000) [SX.vc, SX.stop, SX.contS, SX.contB, SX.sxStep, SX.stepPure, SX.stepNew, SX.stepStore, SX.guardIx, SX.evOp, SX.opd, SX.look, SX.putS, SX.gobs, SX.AllP, SX.leave, SX.lookB, SX.lookT, SX.evBin, SX.evInt, SX.evLoad, SX.shapeUp, SX.evFieldAddr, SX.evIndexAddr, SX.cellsV, SX.evNew, SX.evStore, SX.spliceL, SX.SV.cells, SX.evUn, SX.evPick, SX.cnd, SX.TD.isAgg, SX.NotAgg, Go.Value.cells, Go.undef, cfg76, tabC, lseC, hx, c1, c2, c3, c4, c5]
      refine ⟨by (unfold SX.Ob; first | trivial | omega | ((try simp only [SX.inK]); (try simp [SX.den, SX.IsU8, SX.AllP, *]); (try omega))), ?_⟩
      intro a3 w3 hr3 _
      exact post_retn (end1 hr3 rfl rfl ⟨by rw [hbad fun h => c5 h.2.2.2.2.1], hr3.keeps.toBelow⟩).1
    by_cases c6 : t.now < x.u
    rotate_left
    · refine seg cfg76_ok mixed PanicFree.body 1000 [true, true] [(20, true), (25, true), (30, true), (35, true), (42, true), (49, false)] h2 (by first | trivial | exact HpRep.nil | assumption) (by kernel_rfl) fun s_ hs_ => ?_
      simp (maxSteps := 10000000) [SX.vc, SX.stop, SX.contS, SX.contB, SX.sxStep, SX.stepPure, SX.stepNew, SX.stepStore, SX.guardIx, SX.evOp, SX.opd, SX.look, SX.putS, SX.gobs, SX.AllP, SX.leave, SX.lookB, SX.lookT, SX.evBin, SX.evInt, SX.evLoad, SX.shapeUp, SX.evFieldAddr, SX.evIndexAddr, SX.cellsV, SX.evNew, SX.evStore, SX.spliceL, SX.SV.cells, SX.evUn, SX.evPick, SX.cnd, SX.TD.isAgg, SX.NotAgg, Go.Value.cells, Go.undef, cfg76, tabC, lseC, hx, c1, c2, c3, c4, c5, c6]
      refine ⟨by (unfold SX.Ob; first | trivial | omega | ((try simp only [SX.inK]); (try simp [SX.den, SX.IsU8, SX.AllP, *]); (try omega))), ?_⟩
      intro a3 w3 hr3 _
      exact post_retn (end1 hr3 rfl rfl ⟨by rw [hbad fun h => c6 h.2.2.2.2.2.1], hr3.keeps.toBelow⟩).1
    by_cases c7 : x.e ∈ met
    · have hW : hasM met x.e = some (.v (.bool true)) := if_pos c7
      refine seg cfg76_ok mixed PanicFree.body 1000 [true, true] [(20, true), (25, true), (30, true), (35, true), (42, true), (49, true)] h2 (by first | trivial | exact HpRep.nil | assumption) (by kernel_rfl) fun s_ hs_ => ?_
      simp (maxSteps := 10000000) [SX.vc, SX.stop, SX.contS, SX.contB, SX.sxStep, SX.stepPure, SX.stepNew, SX.stepStore, SX.guardIx, SX.evOp, SX.opd, SX.look, SX.putS, SX.gobs, SX.AllP, SX.leave, SX.lookB, SX.lookT, SX.evBin, SX.evInt, SX.evLoad, SX.shapeUp, SX.evFieldAddr, SX.evIndexAddr, SX.cellsV, SX.evNew, SX.evStore, SX.spliceL, SX.SV.cells, SX.evUn, SX.evPick, SX.cnd, SX.TD.isAgg, SX.NotAgg, SX.evLookup, Go.Value.cells, cfg76, tabC, lseC, hx, c1, c2, c3, c4, c5, c6, hW]
      refine ⟨by (unfold SX.Ob; first | trivial | omega | ((try simp only [SX.inK]); (try simp [SX.den, SX.IsU8, SX.AllP, *]); (try omega))), ?_⟩
      intro a3 w3 hr3 _
      exact post_retn (end1 hr3 rfl rfl ⟨by rw [hbad fun h => h.2.2.2.2.2.2 c7], hr3.keeps.toBelow⟩).1
    · have hW : hasM met x.e = none := if_neg c7
      refine seg cfg76_ok mixed PanicFree.body 1000 [true, false] [(20, true), (25, true), (30, true), (35, true), (42, true), (49, true)] h2 (by first | trivial | exact HpRep.nil | assumption) (by kernel_rfl) fun s_ hs_ => ?_
      simp (maxSteps := 10000000) [SX.vc, SX.stop, SX.contS, SX.contB, SX.sxStep, SX.stepPure, SX.stepNew, SX.stepStore, SX.guardIx, SX.evOp, SX.opd, SX.look, SX.putS, SX.gobs, SX.AllP, SX.leave, SX.lookB, SX.lookT, SX.evBin, SX.evInt, SX.arith, SX.evLoad, SX.shapeUp, SX.evFieldAddr, SX.evIndexAddr, SX.cellsV, SX.evNew, SX.evStore, SX.spliceL, SX.SV.cells, SX.evUn, SX.evPick, SX.cnd, SX.TD.isAgg, SX.NotAgg, SX.evLookup, Go.Value.cells, cfg76, tabC, lseC, hx, c1, c2, c3, c4, c5, c6, hW, updFn_hasM]
      refine ⟨by (unfold SX.Ob; first | trivial | omega | ((try simp only [SX.inK]); (try simp [SX.den, SX.IsU8, SX.AllP, *]); (try omega))), ?_⟩
      intro a3 w3 hr3 _
      exact post_rnd (t.L.length - (k + 1)) (by omega) ⟨k + 1, x.k, x.e :: met, rfl, hlt, hi.trans ⟨fun h => h.2, fun h => ⟨⟨c1, c2, c3, c4, c5, c6, c7⟩, h⟩⟩, hr3.re (by simp [envTo, SX.look, den]) ⟨⟨hr3.all.1.1, hr3.all.1.2.1, by simp⟩, ⟨hr3.all.2.1.1, hr3.all.2.1.2.1, by simp⟩, trivial⟩ rfl rfl⟩
  · obtain rfl : k = t.L.length := by omega
    simp only [List.drop_length, ChkL, iff_true] at hi
    by_cases c1 : t.last < 0
    · have hc : chkT t = 1 := if_neg fun h => by have := h.2.1; omega
      refine seg cfg76_ok mixed PanicFree.body 1000 [false, true] [(67, true)] hr2 (by first | trivial | exact HpRep.nil | assumption) (by kernel_rfl) fun s_ hs_ => ?_
      simp (maxSteps := 10000000) [SX.vc, SX.stop, SX.contS, SX.contB, SX.contW, SX.sxStep, SX.stepPure, SX.guardIx, SX.evOp, SX.opd, SX.look, SX.putS, SX.gobs, SX.AllP, SX.leave, SX.lookB, SX.lookT, SX.evBin, SX.evInt, SX.evLoad, SX.shapeUp, SX.evFieldAddr, SX.evPick, SX.popTo, SX.cnd, SX.TD.isAgg, Go.undef, cfg76, tabC, c1]
      refine ⟨by (unfold SX.Ob; first | trivial | omega | ((try simp only [SX.inK]); (try simp [SX.den, SX.IsU8, SX.AllP, *]); (try omega))), ?_⟩
      intro a3 w3 hr3 _
      exact post_retn (end1 hr3 rfl rfl ⟨by rw [hc], hr3.keeps.toBelow⟩).1
    by_cases c2 : t.now < 0
    · have hc : chkT t = 1 := if_neg fun h => by have := h.2.2; omega
      refine seg cfg76_ok mixed PanicFree.body 1000 [false, true] [(67, false)] hr2 (by first | trivial | exact HpRep.nil | assumption) (by kernel_rfl) fun s_ hs_ => ?_
      simp (maxSteps := 10000000) [SX.vc, SX.stop, SX.contS, SX.contB, SX.contW, SX.sxStep, SX.stepPure, SX.guardIx, SX.evOp, SX.opd, SX.look, SX.putS, SX.gobs, SX.AllP, SX.leave, SX.lookB, SX.lookT, SX.evBin, SX.evInt, SX.evLoad, SX.shapeUp, SX.evFieldAddr, SX.evPick, SX.popTo, SX.cnd, SX.TD.isAgg, cfg76, tabC, c1, c2]
      refine ⟨by (unfold SX.Ob; first | trivial | omega | ((try simp only [SX.inK]); (try simp [SX.den, SX.IsU8, SX.AllP, *]); (try omega))), ?_⟩
      intro a3 w3 hr3 _
      exact post_retn (end1 hr3 rfl rfl ⟨by rw [hc], hr3.keeps.toBelow⟩).1
    have hc : chkT t = 0 := if_pos ⟨hi, by omega, by omega⟩
    refine seg cfg76_ok mixed PanicFree.body 1000 [false, false] [(67, false)] hr2 (by first | trivial | exact HpRep.nil | assumption) (by kernel_rfl) fun s_ hs_ => ?_
    simp (maxSteps := 10000000) [SX.vc, SX.stop, SX.contS, SX.contB, SX.contW, SX.sxStep, SX.stepPure, SX.guardIx, SX.evOp, SX.opd, SX.look, SX.putS, SX.gobs, SX.AllP, SX.leave, SX.lookB, SX.lookT, SX.evBin, SX.evInt, SX.evLoad, SX.shapeUp, SX.evFieldAddr, SX.evPick, SX.popTo, SX.cnd, SX.TD.isAgg, cfg76, tabC, c1, c2]
    refine ⟨by (unfold SX.Ob; first | trivial | omega | ((try simp only [SX.inK]); (try simp [SX.den, SX.IsU8, SX.AllP, *]); (try omega))), ?_⟩
    intro a3 w3 hr3 _
    exact post_retn (end1 hr3 rfl rfl ⟨by rw [hc], hr3.keeps.toBelow⟩).1
end Go.Proofs.L6
namespace Go.Proofs.L6
open Go Go.Proofs Go.SX Go.RowKit
def GoodL (last now prev : Int) (met : List Int) (L : List Lse) (i : Nat) : Prop :=
  (prev < (nth lse0 L i).k ∧ 0 ≤ (nth lse0 L i).h ∧ (nth lse0 L i).h < 8 ∧ 1 ≤ (nth lse0 L i).e ∧ (nth lse0 L i).e ≤ last ∧ now < (nth lse0 L i).u) ∧ (nth lse0 L i).e ∉ met ∧
  ∀ j, j < i → (nth lse0 L j).k < (nth lse0 L i).k ∧ (nth lse0 L j).e ≠ (nth lse0 L i).e
theorem chkL_iff (last now : Int) : ∀ (L : List Lse) (prev : Int) (met : List Int), ChkL last now prev met L ↔ ∀ i, i < L.length → GoodL last now prev met L i
  | [], _, _ => by simp [ChkL]
  | s :: r, prev, met => by
    rw [ChkL, chkL_iff last now r s.k (s.e :: met)]
    constructor
    · rintro ⟨h1, h2⟩ i hi
      cases i with
      | zero => exact ⟨⟨h1.1, h1.2.1, h1.2.2.1, h1.2.2.2.1, h1.2.2.2.2.1, h1.2.2.2.2.2.1⟩, h1.2.2.2.2.2.2, by omega⟩
      | succ i =>
        obtain ⟨g1, g2, g3⟩ := h2 i (by simpa using hi)
        have h0 := h1.1
        have hk : s.k < (nth lse0 r i).k := g1.1
        refine ⟨⟨?_, g1.2⟩, fun h => g2 (List.mem_cons_of_mem _ h), fun j hj => ?_⟩
        · show prev < (nth lse0 r i).k
          omega
        · cases j with
          | zero => exact ⟨hk, fun h => g2 (by rw [show s.e = (nth lse0 r i).e from h]; exact List.mem_cons_self)⟩
          | succ j => exact g3 j (by omega)
    · intro h
      have h0 := h 0 (by simp)
      refine ⟨⟨h0.1.1, h0.1.2.1, h0.1.2.2.1, h0.1.2.2.2.1, h0.1.2.2.2.2.1, h0.1.2.2.2.2.2, h0.2.1⟩, fun i hi => ?_⟩
      obtain ⟨g1, g2, g3⟩ := h (i + 1) (by simpa using hi)
      have g4 := g3 0 (by omega)
      refine ⟨⟨g4.1, g1.2⟩, fun hm => ?_, fun j hj => g3 (j + 1) (by omega)⟩
      rcases List.mem_cons.1 hm with hm | hm
      · exact g4.2 hm.symm
      · exact g2 hm
end Go.Proofs.L6
namespace Go.Proofs.L6
open Go Go.Proofs Go.SX Go.RowKit
def OwR (w : World) (L : List Lse) (e : Ending) (w' : World) : Prop := ∃ v', e = .returned v' ∧ OwL (fun x => w.heap.size ≤ x) w' v' L ∧ Below w.heap.size w w'
set_option maxRecDepth 100000 in
set_option maxHeartbeats 8000000 in
theorem clone_ok {P : Nat → Prop} (w : World) (v : Value) (L : List Lse) (hL : RdL P w v L) (h0 : 0 < L.length) (hn : L.length ≤ 1000000) : Calls Try.prog 40 (denL [.v v]).toArray w (OwR w L) := by
  obtain ⟨b, o0, cap, u, fz, hP, rfl, hrep⟩ := hL.opn h0
  refine enter (F := frame0 w) Try.func40 rfl [.sl 0 b o0 0 L.length cap 4] [(b, false, .arr o0 L.length (fun j => lseC (nth lse0 L j)) 4 u fz)] (by simp [Try.f40]) (HpAll.one hrep) (keeps0 w) fun a hr => ?_
  refine seg cfg40_ok mixed PanicFree.body 1000 [false] [] hr (by first | trivial | exact HpRep.nil | assumption) (by kernel_rfl) fun s_ hs_ => ?_
  simp (maxSteps := 10000000) [SX.vc, SX.stop, SX.contS, SX.contB, SX.sxStep, SX.stepPure, SX.stepNew, SX.stepStore, SX.guardIx, SX.evOp, SX.opd, SX.opds, SX.look, SX.putS, SX.gobs, SX.AllP, SX.leave, SX.lookT, SX.evBuiltin, SX.evBin, SX.evEq, SX.evNew, SX.evStore, SX.SV.cells, SX.env0, cfg40, Try.f40]
  refine ⟨by (unfold SX.Ob; first | trivial | omega | ((try simp only [SX.inK]); (try simp [SX.den, SX.IsU8, SX.AllP, *]); (try omega))), ?_⟩
  intro a1 w1 hr1 _
  obtain ⟨s_0, hs00⟩ : ∃ x, x = s_ := ⟨_, rfl⟩
  subst hs00
  refine post_append cfg40_ok hr1 rfl (d := 7) rfl (by simp) rfl rfl (t := 25) (t' := 25) rfl rfl rfl rfl rfl rfl (by decide) (j := 0) rfl rfl (base2 := 0) (by omega) (.inr ⟨rfl, rfl, Nat.le_refl _, Nat.le_refl _⟩) h0 (by show (2 * (0 + L.length) + 192) * 32 ≤ 281474976710656; omega) (fun j hj z hz => ?_) ?_
  · simp only [lseC, Nat.zero_add, List.mem_cons, List.not_mem_nil, or_false] at hz
    rcases hz with rfl | rfl | rfl | rfl <;> trivial
  intro a3 w3 b' cap' N' row' u' hc1' hc2' hrow0 hrow1 hb' hr3
  refine seg cfg40_ok mixed PanicFree.body 1000 [] [] hr3 (by first | trivial | exact HpRep.nil | assumption) (by kernel_rfl) fun s_ hs_ => ?_
  simp (maxSteps := 10000000) [SX.vc, SX.stop, SX.contS, SX.sxStep, SX.stepPure, SX.guardIx, SX.evOp, SX.opd, SX.look, SX.putS, SX.gobs, SX.AllP, SX.leave, cfg40]
  refine ⟨by (unfold SX.Ob; first | trivial | omega | ((try simp only [SX.inK]); (try simp [SX.den, SX.IsU8, SX.AllP, *]); (try omega))), ?_⟩
  intro a4 w4 hr4 _
  have hA := hr4.all
  have hbb : w.heap.size ≤ b' := by
    have h10 : w.heap.size ≤ w1.heap.size := hr1.keeps.size
    have h11 := hr1.all.2.1.2.1
    rcases hb' with ⟨h, rfl⟩ | rfl
    · cases h
      rcases h11 rfl with h | h
      · exact h
      · cases h
    · exact h10
  exact post_retn (end1 hr4 rfl rfl ⟨_, rfl, .inr ⟨b', N', cap', u', row', hbb, by simp [den], by omega, by omega, hc2', hA.2.1.1, fun j hj => by have := hrow1 j hj; simpa using this⟩, hr4.keeps.toBelow⟩).1
end Go.Proofs.L6
namespace Go.Proofs.L6
open Go Go.Proofs Go.SX Go.RowKit
set_option maxRecDepth 100000 in
set_option maxHeartbeats 8000000 in
theorem clone_all {P : Nat → Prop} (w : World) (v : Value) (L : List Lse) (hL : RdL P w v L) (hn : L.length ≤ 1000000) : Calls Try.prog 40 (denL [.v v]).toArray w (OwR w L) := by
  rcases Nat.eq_zero_or_pos L.length with h0 | h0
  rotate_left
  · exact clone_ok w v L hL h0 hn
  obtain rfl : L = [] := List.length_eq_zero_iff.1 h0
  obtain ⟨ad, cp, rfl⟩ := hL.slice
  rcases ad with _ | ad
  · refine enter (F := frame0 w) Try.func40 rfl [.v (.slice none 0 cp)] [] (by simp [Try.f40]) trivial (keeps0 w) fun a hr => ?_
    refine seg cfg40_ok mixed PanicFree.body 1000 [true] [] hr (by first | trivial | exact HpRep.nil | assumption) (by kernel_rfl) fun s_ hs_ => ?_
    simp (maxSteps := 10000000) [SX.vc, SX.stop, SX.contS, SX.contB, SX.sxStep, SX.stepPure, SX.stepNew, SX.stepStore, SX.guardIx, SX.evOp, SX.opd, SX.opds, SX.look, SX.putS, SX.gobs, SX.AllP, SX.leave, SX.lookT, SX.evBuiltin, SX.evBin, SX.evEq, SX.evNew, SX.evStore, SX.SV.cells, SX.env0, cfg40, Try.f40]
    refine ⟨by (unfold SX.Ob; first | trivial | omega | ((try simp only [SX.inK]); (try simp [SX.den, SX.IsU8, SX.AllP, *]); (try omega))), ?_⟩
    intro a1 w1 hr1 _
    exact post_retn (end1 hr1 rfl rfl ⟨_, rfl, OwS.nil, hr1.keeps.toBelow⟩).1
  · refine enter (F := frame0 w) Try.func40 rfl [.v (.slice (some ad) 0 cp)] [] (by simp [Try.f40]) trivial (keeps0 w) fun a hr => ?_
    refine seg cfg40_ok mixed PanicFree.body 1000 [false] [] hr (by first | trivial | exact HpRep.nil | assumption) (by kernel_rfl) fun sN hsN => ?_
    simp (maxSteps := 10000000) [SX.vc, SX.stop, SX.contS, SX.contB, SX.sxStep, SX.stepPure, SX.stepNew, SX.stepStore, SX.guardIx, SX.evOp, SX.opd, SX.opds, SX.look, SX.putS, SX.gobs, SX.AllP, SX.leave, SX.lookT, SX.evBuiltin, SX.evBin, SX.evEq, SX.evNew, SX.evStore, SX.SV.cells, SX.env0, cfg40, Try.f40]
    refine ⟨by (unfold SX.Ob; first | trivial | omega | ((try simp only [SX.inK]); (try simp [SX.den, SX.IsU8, SX.AllP, *]); (try omega))), ?_⟩
    intro a1 w1 hr1 _
    refine post_append0 cfg40_ok hr1 (wanted_none rfl) rfl (by simp) rfl rfl rfl rfl rfl rfl rfl rfl rfl (Nat.le_refl _) fun a2 hr2 => ?_
    refine seg cfg40_ok mixed PanicFree.body 1000 [] [] hr2 (by first | trivial | exact HpRep.nil | assumption) (by kernel_rfl) fun s_ hs_ => ?_
    simp (maxSteps := 10000000) [SX.vc, SX.stop, SX.contS, SX.sxStep, SX.stepPure, SX.guardIx, SX.evOp, SX.opd, SX.look, SX.putS, SX.gobs, SX.AllP, SX.leave, cfg40]
    refine ⟨by (unfold SX.Ob; first | trivial | omega | ((try simp only [SX.inK]); (try simp [SX.den, SX.IsU8, SX.AllP, *]); (try omega))), ?_⟩
    intro a3 w3 hr3 _
    exact post_retn (end1 hr3 rfl rfl ⟨_, rfl, .inl ⟨rfl, _, rfl⟩, hr3.keeps.toBelow⟩).1
end Go.Proofs.L6
namespace Go.Proofs.L6
open Go Go.Proofs Go.SX Go.RowKit
def cmpI (x y : Int) : Int := if x < y then -1 else if y < x then 1 else 0
theorem cmpI_lt {x y : Int} : cmpI x y < 0 ↔ x < y := by unfold cmpI; split <;> (try split) <;> omega
theorem cmpI_eq {x y : Int} : cmpI x y = 0 ↔ x = y := by unfold cmpI; split <;> (try split) <;> omega
set_option maxRecDepth 100000 in
set_option maxHeartbeats 8000000 in
theorem nan_ok (w : World) (x : Int) : Calls Try.prog 67 (denL [.v (.int .i64 x)]).toArray w (Ret w (.v (.bool false))) := by
  refine enter (F := frame0 w) Try.func67 rfl [.v (.int .i64 x)] [] (by simp [Try.f67]) trivial (keeps0 w) fun a hr => ?_
  refine seg cfg67_ok mixed PanicFree.body 1000 [] [] hr (by first | trivial | exact HpRep.nil | assumption) (by kernel_rfl) fun s_ hs_ => ?_
  simp (maxSteps := 10000000) [SX.vc, SX.stop, SX.contS, SX.sxStep, SX.stepPure, SX.guardIx, SX.evOp, SX.opd, SX.look, SX.putS, SX.gobs, SX.AllP, SX.leave, SX.evBin, SX.evInt, SX.env0, cfg67, Try.f67]
  refine ⟨by (unfold SX.Ob; first | trivial | omega | ((try simp only [SX.inK]); (try simp [SX.den, SX.IsU8, SX.AllP, *]); (try omega))), ?_⟩
  intro a1 w1 hr1 _
  exact post_retn (end1 hr1 rfl rfl ⟨by simp [den], hr1.keeps.toBelow⟩).1
set_option maxRecDepth 100000 in
set_option maxHeartbeats 8000000 in
theorem cmp_ok (w : World) (x y : Int) : Calls Try.prog 53 (denL [.v (.int .i64 x), .v (.int .i64 y)]).toArray w (Ret w (.v (.int .i64 (cmpI x y)))) := by
  refine enter (F := frame0 w) Try.func53 rfl [.v (.int .i64 x), .v (.int .i64 y)] [] (by simp [Try.f53]) trivial (keeps0 w) fun a hr => ?_
  refine seg cfg53_ok mixed PanicFree.body 1000 [] [] hr (by first | trivial | exact HpRep.nil | assumption) (by kernel_rfl) fun s_ hs_ => ?_
  simp (maxSteps := 10000000) [SX.vc, SX.stop, SX.contS, SX.sxStep, SX.stepPure, SX.stepNew, SX.stepStore, SX.guardIx, SX.evOp, SX.opd, SX.look, SX.putS, SX.gobs, SX.AllP, SX.leave, SX.evNew, SX.evStore, SX.env0, cfg53, Try.f53]
  refine ⟨by (unfold SX.Ob; first | trivial | omega | ((try simp only [SX.inK]); (try simp [SX.den, SX.IsU8, SX.AllP, *]); (try omega))), ?_⟩
  intro a1 w1 hr1 _
  refine post_call 67 [.v (.int .i64 x)] hr1 (by first | exact wanted_none rfl | exact wanted_zero (hr1.env.same rfl rfl rfl rfl) rfl (by simp) | exact wanted_zero (hr1.env.same rfl rfl rfl rfl) rfl (by simp [*])) rfl (callable 67 Try.func67) (nan_ok w1 x) ?_
  rintro e2 w2 ⟨rfl, hb2⟩
  refine ⟨_, rfl, ?_⟩
  have h2 := hr1.ret hb2 8 (.v (.bool false)) rfl _ (hr1.all.below hb2) (by simp) rfl
  refine seg cfg53_ok mixed PanicFree.body 1000 [] [] h2 (by first | trivial | exact HpRep.nil | assumption) (by kernel_rfl) fun s_ hs_ => ?_
  simp (maxSteps := 10000000) [SX.vc, SX.stop, SX.contS, SX.sxStep, SX.stepPure, SX.stepNew, SX.stepStore, SX.guardIx, SX.evOp, SX.opd, SX.look, SX.putS, SX.gobs, SX.AllP, SX.leave, SX.evNew, SX.evStore, cfg53]
  refine ⟨by (unfold SX.Ob; first | trivial | omega | ((try simp only [SX.inK]); (try simp [SX.den, SX.IsU8, SX.AllP, *]); (try omega))), ?_⟩
  intro a3 w3 hr3 _
  refine post_call 67 [.v (.int .i64 y)] hr3 (by first | exact wanted_none rfl | exact wanted_zero (hr3.env.same rfl rfl rfl rfl) rfl (by simp) | exact wanted_zero (hr3.env.same rfl rfl rfl rfl) rfl (by simp [*])) rfl (callable 67 Try.func67) (nan_ok w3 y) ?_
  rintro e4 w4 ⟨rfl, hb4⟩
  refine ⟨_, rfl, ?_⟩
  have h4 := hr3.ret hb4 10 (.v (.bool false)) rfl _ (hr3.all.below hb4) (by simp) rfl
  by_cases h1 : x < y
  · have hc : cmpI x y = -1 := if_pos h1
    refine seg cfg53_ok mixed PanicFree.body 1000 [false, false, true] [] h4 (by first | trivial | exact HpRep.nil | assumption) (by kernel_rfl) fun s_ hs_ => ?_
    simp (maxSteps := 10000000) [SX.vc, SX.stop, SX.contS, SX.contB, SX.sxStep, SX.stepPure, SX.guardIx, SX.evOp, SX.opd, SX.look, SX.putS, SX.gobs, SX.AllP, SX.leave, SX.evBin, SX.evInt, cfg53, h1]
    refine ⟨by (unfold SX.Ob; first | trivial | omega | ((try simp only [SX.inK]); (try simp [SX.den, SX.IsU8, SX.AllP, *]); (try omega))), ?_⟩
    intro a5 w5 hr5 _
    exact post_retn (end1 hr5 rfl rfl ⟨by rw [hc], hr5.keeps.toBelow⟩).1
  by_cases h2' : y < x
  · have hc : cmpI x y = 1 := by rw [cmpI, if_neg h1, if_pos h2']
    refine seg cfg53_ok mixed PanicFree.body 1000 [false, false, false, true] [] h4 (by first | trivial | exact HpRep.nil | assumption) (by kernel_rfl) fun s_ hs_ => ?_
    simp (maxSteps := 10000000) [SX.vc, SX.stop, SX.contS, SX.contB, SX.sxStep, SX.stepPure, SX.guardIx, SX.evOp, SX.opd, SX.look, SX.putS, SX.gobs, SX.AllP, SX.leave, SX.evBin, SX.evInt, cfg53, h1, h2']
    refine ⟨by (unfold SX.Ob; first | trivial | omega | ((try simp only [SX.inK]); (try simp [SX.den, SX.IsU8, SX.AllP, *]); (try omega))), ?_⟩
    intro a5 w5 hr5 _
    exact post_retn (end1 hr5 rfl rfl ⟨by rw [hc], hr5.keeps.toBelow⟩).1
  · have hc : cmpI x y = 0 := by rw [cmpI, if_neg h1, if_neg h2']
    refine seg cfg53_ok mixed PanicFree.body 1000 [false, false, false, false] [] h4 (by first | trivial | exact HpRep.nil | assumption) (by kernel_rfl) fun s_ hs_ => ?_
    simp (maxSteps := 10000000) [SX.vc, SX.stop, SX.contS, SX.contB, SX.sxStep, SX.stepPure, SX.guardIx, SX.evOp, SX.opd, SX.look, SX.putS, SX.gobs, SX.AllP, SX.leave, SX.evBin, SX.evInt, cfg53, h1, h2']
    refine ⟨by (unfold SX.Ob; first | trivial | omega | ((try simp only [SX.inK]); (try simp [SX.den, SX.IsU8, SX.AllP, *]); (try omega))), ?_⟩
    intro a5 w5 hr5 _
    exact post_retn (end1 hr5 rfl rfl ⟨by rw [hc], hr5.keeps.toBelow⟩).1
set_option maxRecDepth 100000 in
set_option maxHeartbeats 8000000 in
theorem find1_ok (w : World) (x : Lse) (y : Int) : Calls Try.prog 93 (denL [.ag (lseC x), .v (.int .i64 y)]).toArray w (Ret w (.v (.int .i64 (cmpI x.k y)))) := by
  refine enter (F := frame0 w) Try.func93 rfl [.ag (lseC x), .v (.int .i64 y)] [] (by simp [Try.f93]) trivial (keeps0 w) fun a hr => ?_
  refine seg cfg93_ok mixed PanicFree.body 1000 [] [] hr (by first | trivial | exact HpRep.nil | assumption) (by kernel_rfl) fun s_ hs_ => ?_
  simp (maxSteps := 10000000) [SX.vc, SX.stop, SX.contS, SX.sxStep, SX.stepPure, SX.stepNew, SX.stepStore, SX.guardIx, SX.evOp, SX.opd, SX.look, SX.putS, SX.gobs, SX.AllP, SX.leave, SX.lookT, SX.evLoad, SX.shapeUp, SX.evFieldAddr, SX.evNew, SX.evStore, SX.SV.cells, SX.env0, SX.TD.isAgg, cfg93, Try.f93, lseC]
  refine ⟨by (unfold SX.Ob; first | trivial | omega | ((try simp only [SX.inK]); (try simp [SX.den, SX.IsU8, SX.AllP, *]); (try omega))), ?_⟩
  intro a1 w1 hr1 _
  refine post_call 53 [.v (.int .i64 x.k), .v (.int .i64 y)] hr1 (by first | exact wanted_none rfl | exact wanted_zero (hr1.env.same rfl rfl rfl rfl) rfl (by simp) | exact wanted_zero (hr1.env.same rfl rfl rfl rfl) rfl (by simp [*])) rfl (callable 53 Try.func53) (cmp_ok w1 x.k y) ?_
  rintro e2 w2 ⟨rfl, hb2⟩
  refine ⟨_, rfl, ?_⟩
  have h2 := hr1.ret hb2 8 (.v (.int .i64 (cmpI x.k y))) rfl _ (hr1.all.below hb2) (by simp) rfl
  refine seg cfg93_ok mixed PanicFree.body 1000 [] [] h2 (by first | trivial | exact HpRep.nil | assumption) (by kernel_rfl) fun s_ hs_ => ?_
  simp (maxSteps := 10000000) [SX.vc, SX.stop, SX.contS, SX.sxStep, SX.stepPure, SX.guardIx, SX.evOp, SX.opd, SX.look, SX.putS, SX.gobs, SX.AllP, SX.leave, cfg93]
  refine ⟨by (unfold SX.Ob; first | trivial | omega | ((try simp only [SX.inK]); (try simp [SX.den, SX.IsU8, SX.AllP, *]); (try omega))), ?_⟩
  intro a3 w3 hr3 _
  exact post_retn (end1 hr3 rfl rfl ⟨rfl, hr3.keeps.toBelow⟩).1
def Srt (L : List Lse) : Prop := ∀ i j, i < j → j < L.length → (nth lse0 L i).k < (nth lse0 L j).k
def PlaceP (L : List Lse) (y : Int) (i : Nat) : Prop := i ≤ L.length ∧ (Srt L → (∀ j, j < i → (nth lse0 L j).k < y) ∧ ∀ j, i ≤ j → j < L.length → y ≤ (nth lse0 L j).k)
def isAt (L : List Lse) (y : Int) (i : Nat) : Bool := decide (i < L.length ∧ (nth lse0 L i).k = y)
def BinR (w : World) (L : List Lse) (y : Int) (e : Ending) (w' : World) : Prop := ∃ i : Nat, e = .returned (den (.tu [.v (.int .i64 i), .v (.bool (isAt L y i))])) ∧ PlaceP L y i ∧ Below w.heap.size w w'
def BsLoop (w : World) (v : Value) (L : List Lse) (y : Int) (m : Nat) (a : Act) (w' : World) : Prop :=
  ∃ lo hi : Nat, m = hi - lo ∧ lo ≤ hi ∧ hi ≤ L.length ∧ (Srt L → (∀ j, j < lo → (nth lse0 L j).k < y) ∧ ∀ j, hi ≤ j → j < L.length → y ≤ (nth lse0 L j).k) ∧
    RepX (frame0 w) ⟨[(9, 0, .v (.int .i64 lo)), (10, 0, .v (.int .i64 hi)), (8, 0, .v (.int .i64 L.length)), (0, 0, .v v), (1, 0, .v (.int .i64 y)), (2, 0, .fn (.func 93) [] []), (6, 0, .v (.int .i64 0)), (7, 0, .v (.bool false))], [], 0, 0, 49, [], [], []⟩ a w'
set_option maxRecDepth 100000 in
set_option maxHeartbeats 8000000 in
theorem bin_ok {P : Nat → Prop} (w : World) (v : Value) (L : List Lse) (y : Int) (hL : RdL P w v L) (hn : L.length ≤ 1000000000000000) : Calls Try.prog 51 (denL [.v v, .v (.int .i64 y), .fn (.func 93) [] []]).toArray w (BinR w L y) := by
  obtain ⟨ad, cp, rfl⟩ := hL.slice
  refine enter (F := frame0 w) Try.func51 rfl [.v (.slice ad L.length cp), .v (.int .i64 y), .fn (.func 93) [] []] [] (by simp [Try.f51]) trivial (keeps0 w) fun a hr => ?_
  refine seg cfg51_ok mixed PanicFree.body 1000 [] [] hr (by first | trivial | exact HpRep.nil | assumption) (by kernel_rfl) fun s_ hs_ => ?_
  simp (maxSteps := 10000000) [SX.vc, SX.stop, SX.contS, SX.sxStep, SX.stepPure, SX.guardIx, SX.evOp, SX.opd, SX.opds, SX.look, SX.putS, SX.gobs, SX.AllP, SX.leave, SX.lookT, SX.evBuiltin, SX.env0, cfg51, Try.f51]
  refine ⟨by (unfold SX.Ob; first | trivial | omega | ((try simp only [SX.inK]); (try simp [SX.den, SX.IsU8, SX.AllP, *]); (try omega))), ?_⟩
  intro a1 w1 hr1 _
  refine post_loop (BsLoop w (.slice ad L.length cp) L y) L.length ⟨0, L.length, rfl, by omega, by omega, fun _ => ⟨by omega, by omega⟩, hr1.re (by simp [envTo, SX.look]) trivial rfl rfl⟩ ?_
  rintro m a2 w2 ⟨lo, hi, rfl, hlh, hhn, hs, hr2⟩
  by_cases hlt : lo < hi
  · obtain ⟨mid, hmid⟩ : ∃ mid : Nat, (lo + hi) / 2 = mid := ⟨_, rfl⟩
    obtain ⟨b, o0, cap, u, fz, hP, hv, hrep⟩ := hL.opn (show mid < L.length by omega)
    cases hv
    have hrep2 := SO.rep_same hrep (hr2.keeps.toBelow.block _ (SO.rep_lt hrep))
    obtain ⟨x, hx⟩ : ∃ x, nth lse0 L mid = x := ⟨_, rfl⟩
    have h2 := (hr2.top 0 (.sl 0 b o0 0 L.length cp 4) rfl (by simp [den])).see _ (HpAll.one hrep2)
    have hm := mid_ok lo hi (by omega)
    rw [hmid] at hm
    refine seg cfg51_ok mixed PanicFree.body 1000 [true] [] h2 (by first | trivial | exact HpRep.nil | assumption) (by kernel_rfl) fun s_ hs_ => ?_
    simp (maxSteps := 10000000) [SX.vc, SX.stop, SX.contS, SX.contB, SX.sxStep, SX.stepPure, SX.stepNew, SX.stepStore, SX.guardIx, SX.evOp, SX.opd, SX.look, SX.putS, SX.gobs, SX.AllP, SX.leave, SX.lookT, SX.evBin, SX.evInt, SX.arith, SX.evLoad, SX.shapeUp, SX.evIndexAddr, SX.evNew, SX.evStore, SX.evConv, SX.TD.isAgg, SX.evConvH, cfg51, lseC, hx, hm]
    refine ⟨by (unfold SX.Ob; first | trivial | omega | ((try simp only [SX.inK]); (try simp [SX.den, SX.IsU8, SX.AllP, *]); (try omega))), ?_⟩
    intro a3 w3 hr3 _
    refine post_call 93 [.ag (lseC x), .v (.int .i64 y)] hr3 (by first | exact wanted_none rfl | exact wanted_zero (hr3.env.same rfl rfl rfl rfl) rfl (by simp) | exact wanted_zero (hr3.env.same rfl rfl rfl rfl) rfl (by simp [*])) rfl (callable 93 Try.func93) (find1_ok w3 x y) ?_
    rintro e4 w4 ⟨rfl, hb4⟩
    refine ⟨_, rfl, ?_⟩
    have h4 := hr3.ret hb4 30 (.v (.int .i64 (cmpI x.k y))) rfl _ (hr3.all.below hb4) (by simp) rfl
    by_cases hc : cmpI x.k y < 0
    · have hc' := cmpI_lt.1 hc
      refine seg cfg51_ok mixed PanicFree.body 1000 [true] [] h4 (by first | trivial | exact HpRep.nil | assumption) (by kernel_rfl) fun s_ hs_ => ?_
      simp (maxSteps := 10000000) [SX.vc, SX.stop, SX.contS, SX.contB, SX.sxStep, SX.stepPure, SX.guardIx, SX.evOp, SX.opd, SX.look, SX.putS, SX.gobs, SX.AllP, SX.leave, SX.evBin, SX.evInt, SX.arith, cfg51, hc]
      refine ⟨by (unfold SX.Ob; first | trivial | omega | ((try simp only [SX.inK]); (try simp [SX.den, SX.IsU8, SX.AllP, *]); (try omega))), ?_⟩
      intro a5 w5 hr5 _
      exact post_rnd (hi - (mid + 1)) (by omega) ⟨mid + 1, hi, rfl, by omega, hhn, fun h => ⟨fun j hj => by
        rcases Nat.lt_or_ge j mid with hj1 | hj1
        · have h1 := h j mid hj1 (by omega)
          rw [hx] at h1
          omega
        · obtain rfl : j = mid := by omega
          rw [hx]; exact hc', (hs h).2⟩, hr5.re (by simp [envTo, SX.look, den]) trivial rfl rfl⟩
    · have hc' : y ≤ x.k := by have := mt cmpI_lt.2 hc; omega
      refine seg cfg51_ok mixed PanicFree.body 1000 [false] [] h4 (by first | trivial | exact HpRep.nil | assumption) (by kernel_rfl) fun s_ hs_ => ?_
      simp (maxSteps := 10000000) [SX.vc, SX.stop, SX.contS, SX.contB, SX.sxStep, SX.stepPure, SX.guardIx, SX.evOp, SX.opd, SX.look, SX.putS, SX.gobs, SX.AllP, SX.leave, SX.evBin, SX.evInt, SX.arith, cfg51, hc]
      refine ⟨by (unfold SX.Ob; first | trivial | omega | ((try simp only [SX.inK]); (try simp [SX.den, SX.IsU8, SX.AllP, *]); (try omega))), ?_⟩
      intro a5 w5 hr5 _
      exact post_rnd (mid - lo) (by omega) ⟨lo, mid, rfl, by omega, by omega, fun h => ⟨(hs h).1, fun j hj hjl => by
        rcases Nat.lt_or_ge mid j with hj1 | hj1
        · have h1 := h mid j hj1 hjl
          rw [hx] at h1
          omega
        · obtain rfl : j = mid := by omega
          rw [hx]; exact hc'⟩, hr5.re (by simp [envTo, SX.look, den]) trivial rfl rfl⟩
  · obtain rfl : lo = hi := by omega
    have hpl : PlaceP L y lo := ⟨hhn, hs⟩
    by_cases hll : lo < L.length
    · obtain ⟨b, o0, cap, u, fz, hP, hv, hrep⟩ := hL.opn hll
      cases hv
      have hrep2 := SO.rep_same hrep (hr2.keeps.toBelow.block _ (SO.rep_lt hrep))
      obtain ⟨x, hx⟩ : ∃ x, nth lse0 L lo = x := ⟨_, rfl⟩
      have h2 := (hr2.top 0 (.sl 0 b o0 0 L.length cp 4) rfl (by simp [den])).see _ (HpAll.one hrep2)
      refine seg cfg51_ok mixed PanicFree.body 1000 [false] [(39, true)] h2 (by first | trivial | exact HpRep.nil | assumption) (by kernel_rfl) fun s_ hs_ => ?_
      simp (maxSteps := 10000000) [SX.vc, SX.stop, SX.contS, SX.contB, SX.contW, SX.sxStep, SX.stepPure, SX.stepNew, SX.stepStore, SX.guardIx, SX.evOp, SX.opd, SX.look, SX.putS, SX.gobs, SX.AllP, SX.leave, SX.lookB, SX.lookT, SX.evBin, SX.evInt, SX.evLoad, SX.shapeUp, SX.evIndexAddr, SX.evNew, SX.evStore, SX.popTo, SX.cnd, SX.TD.isAgg, cfg51, lseC, hx, hll]
      refine ⟨by (unfold SX.Ob; first | trivial | omega | ((try simp only [SX.inK]); (try simp [SX.den, SX.IsU8, SX.AllP, *]); (try omega))), ?_⟩
      intro a3 w3 hr3 _
      refine post_call 93 [.ag (lseC x), .v (.int .i64 y)] hr3 (by first | exact wanted_none rfl | exact wanted_zero (hr3.env.same rfl rfl rfl rfl) rfl (by simp) | exact wanted_zero (hr3.env.same rfl rfl rfl rfl) rfl (by simp [*])) rfl (callable 93 Try.func93) (find1_ok w3 x y) ?_
      rintro e4 w4 ⟨rfl, hb4⟩
      refine ⟨_, rfl, ?_⟩
      have h4 := hr3.ret hb4 46 (.v (.int .i64 (cmpI x.k y))) rfl _ (hr3.all.below hb4) (by simp) rfl
      refine seg cfg51_ok mixed PanicFree.body 1000 [] [(39, true)] h4 (by first | trivial | exact HpRep.nil | assumption) (by kernel_rfl) fun s_ hs_ => ?_
      simp (maxSteps := 10000000) [SX.vc, SX.stop, SX.contS, SX.sxStep, SX.stepPure, SX.guardIx, SX.evOp, SX.opd, SX.look, SX.putS, SX.gobs, SX.AllP, SX.leave, SX.lookB, SX.evBin, SX.evInt, SX.evPick, SX.cnd, cfg51]
      refine ⟨by (unfold SX.Ob; first | trivial | omega | ((try simp only [SX.inK]); (try simp [SX.den, SX.IsU8, SX.AllP, *]); (try omega))), ?_⟩
      intro a5 w5 hr5 _
      refine post_retn (end2 hr5 rfl rfl rfl ⟨lo, ?_, hpl, hr5.keeps.toBelow⟩).1
      have : isAt L y lo = (cmpI x.k y == 0) := by
        rw [Bool.eq_iff_iff, beq_iff_eq, cmpI_eq]
        simp [isAt, hx, hll]
      rw [this]
      simp [den, denL]
    · refine seg cfg51_ok mixed PanicFree.body 1000 [false] [(39, false)] hr2 (by first | trivial | exact HpRep.nil | assumption) (by kernel_rfl) fun s_ hs_ => ?_
      simp (maxSteps := 10000000) [SX.vc, SX.stop, SX.contS, SX.contB, SX.contW, SX.sxStep, SX.stepPure, SX.guardIx, SX.evOp, SX.opd, SX.look, SX.putS, SX.gobs, SX.AllP, SX.leave, SX.lookB, SX.evBin, SX.evInt, SX.evPick, SX.popTo, SX.cnd, Go.undef, cfg51, hll]
      refine ⟨by (unfold SX.Ob; first | trivial | omega | ((try simp only [SX.inK]); (try simp [SX.den, SX.IsU8, SX.AllP, *]); (try omega))), ?_⟩
      intro a3 w3 hr3 _
      refine post_retn (end2 hr3 rfl rfl rfl ⟨lo, ?_, hpl, hr3.keeps.toBelow⟩).1
      have : isAt L y lo = false := by simp [isAt, hll]
      rw [this]
      simp [den, denL]
set_option maxRecDepth 100000 in
set_option maxHeartbeats 8000000 in
theorem find_ok {P : Nat → Prop} (w : World) (v : Value) (t : Tab) (y : Int) (hL : RdL P w v t.L) (hn : t.L.length ≤ 1000000000000000) : Calls Try.prog 84 (denL [.ag (tabC t v), .v (.int .i64 y)]).toArray w (BinR w t.L y) := by
  refine enter (F := frame0 w) Try.func84 rfl [.ag (tabC t v), .v (.int .i64 y)] [] (by simp [Try.f84]) trivial (keeps0 w) fun a hr => ?_
  refine seg cfg84_ok mixed PanicFree.body 1000 [] [] hr (by first | trivial | exact HpRep.nil | assumption) (by kernel_rfl) fun s_ hs_ => ?_
  simp (maxSteps := 10000000) [SX.vc, SX.stop, SX.contS, SX.sxStep, SX.stepPure, SX.stepNew, SX.stepStore, SX.guardIx, SX.evOp, SX.opd, SX.look, SX.putS, SX.gobs, SX.AllP, SX.leave, SX.lookT, SX.evLoad, SX.shapeUp, SX.evFieldAddr, SX.evNew, SX.evStore, SX.SV.cells, SX.env0, SX.TD.isAgg, cfg84, Try.f84, tabC]
  refine ⟨by (unfold SX.Ob; first | trivial | omega | ((try simp only [SX.inK]); (try simp [SX.den, SX.IsU8, SX.AllP, *]); (try omega))), ?_⟩
  intro a1 w1 hr1 _
  refine post_call 51 [.v v, .v (.int .i64 y), .fn (.func 93) [] []] hr1 (by first | exact wanted_none rfl | exact wanted_zero (hr1.env.same rfl rfl rfl rfl) rfl (by simp) | exact wanted_zero (hr1.env.same rfl rfl rfl rfl) rfl (by simp [*])) rfl (callable 51 Try.func51) (bin_ok w1 v t.L y (hL.below hr1.keeps.toBelow) hn) ?_
  rintro e2 w2 ⟨i, rfl, hp, hb2⟩
  refine ⟨_, rfl, ?_⟩
  have h2 := hr1.ret hb2 9 (.tu [.v (.int .i64 i), .v (.bool (isAt t.L y i))]) rfl _ (hr1.all.below hb2) (by simp) rfl
  refine seg cfg84_ok mixed PanicFree.body 1000 [] [] h2 (by first | trivial | exact HpRep.nil | assumption) (by kernel_rfl) fun s_ hs_ => ?_
  simp (maxSteps := 10000000) [SX.vc, SX.stop, SX.contS, SX.sxStep, SX.stepPure, SX.guardIx, SX.evOp, SX.opd, SX.look, SX.putS, SX.gobs, SX.AllP, SX.leave, cfg84]
  refine ⟨by (unfold SX.Ob; first | trivial | omega | ((try simp only [SX.inK]); (try simp [SX.den, SX.IsU8, SX.AllP, *]); (try omega))), ?_⟩
  intro a3 w3 hr3 _
  exact post_retn (end2 hr3 rfl rfl rfl ⟨i, rfl, hp, hr3.keeps.toBelow⟩).1
end Go.Proofs.L6
namespace Go.Proofs.L6
open Go Go.Proofs Go.SX Go.RowKit
theorem Below.more {w0 w w' : World} {M : List Nat} (h : Below w0.heap.size w0 w) (hk : KeepsTo w M w') (hM : ∀ x ∈ M, w0.heap.size ≤ x) : Below w0.heap.size w0 w' :=
  ⟨hk.os.trans h.os, hk.tape.trans h.tape, hk.output.trans h.output, Nat.le_trans h.size hk.size, fun k hk' => (hk.block k (Nat.lt_of_lt_of_le hk' h.size) (fun hm => absurd (hM k hm) (by omega))).trans (h.block k hk')⟩
set_option maxRecDepth 100000 in
set_option maxHeartbeats 8000000 in
theorem some1_ok (g : Nat) (p : Lse → Bool) (w : World) (x : Lse) (c c3 : Nat) (h3 : (SO.cells [.fn (.func g) [] [.ptr 0 c 0]] 132).rep w c3) (hcg : Callable Try.prog g)
    (hg : ∀ w', Below w.heap.size w w' → Calls Try.prog g (denL [.ag (lseC x), .ptr 0 c 0]).toArray w' (Ret w' (.v (.bool (p x))))) : Calls Try.prog 92 (denL [.ag (lseC x), .ptr 0 c3 0]).toArray w (Ret w (.v (.bool (!p x)))) := by
  refine enter (F := frame0 w) Try.func92 rfl [.ag (lseC x), .ptr 0 c3 0] [(c3, false, .cells [.fn (.func g) [] [.ptr 0 c 0]] 132)] (by simp [Try.f92]) (HpAll.one h3) (keeps0 w) fun a hr => ?_
  refine seg cfg92_ok mixed PanicFree.body 1000 [] [] hr (by first | trivial | exact HpRep.nil | assumption) (by kernel_rfl) fun s_ hs_ => ?_
  simp (maxSteps := 10000000) [SX.vc, SX.stop, SX.contS, SX.sxStep, SX.stepPure, SX.stepNew, SX.stepStore, SX.guardIx, SX.evOp, SX.opd, SX.look, SX.putS, SX.gobs, SX.AllP, SX.leave, SX.lookT, SX.evLoad, SX.shapeUp, SX.evNew, SX.evStore, SX.SV.cells, SX.env0, SX.TD.isAgg, cfg92, Try.f92, lseC]
  refine ⟨by (unfold SX.Ob; first | trivial | omega | ((try simp only [SX.inK]); (try simp [SX.den, SX.IsU8, SX.AllP, *]); (try omega))), ?_⟩
  intro a1 w1 hr1 _
  refine post_call g [.ag (lseC x), .ptr 0 c 0] hr1 (wanted_none rfl) rfl hcg (hg w1 hr1.keeps.toBelow) ?_
  rintro e2 w2 ⟨rfl, hb2⟩
  refine ⟨_, rfl, ?_⟩
  have h2 := hr1.ret hb2 6 (.v (.bool (p x))) rfl _ (hr1.all.below hb2) (by simp) rfl
  refine seg cfg92_ok mixed PanicFree.body 1000 [] [] h2 (by first | trivial | exact HpRep.nil | assumption) (by kernel_rfl) fun s_ hs_ => ?_
  simp (maxSteps := 10000000) [SX.vc, SX.stop, SX.contS, SX.sxStep, SX.stepPure, SX.guardIx, SX.evOp, SX.opd, SX.look, SX.putS, SX.gobs, SX.AllP, SX.leave, SX.evUn, cfg92]
  refine ⟨by (unfold SX.Ob; first | trivial | omega | ((try simp only [SX.inK]); (try simp [SX.den, SX.IsU8, SX.AllP, *]); (try omega))), ?_⟩
  intro a3 w3 hr3 _
  exact post_retn (end1 hr3 rfl rfl ⟨by simp [den], hr3.keeps.toBelow⟩).1
def IxR (w : World) (L : List Lse) (q : Lse → Bool) (e : Ending) (w' : World) : Prop := ((∃ k : Nat, e = .returned (.int .i64 k) ∧ k < L.length ∧ q (nth lse0 L k) = true ∧ ∀ j, j < k → q (nth lse0 L j) = false) ∨ (e = .returned (.int .i64 (-1)) ∧ ∀ j, j < L.length → q (nth lse0 L j) = false)) ∧ Below w.heap.size w w'
def IxLoop (w : World) (v : Value) (L : List Lse) (q : Lse → Bool) (c3 : Nat) (m : Nat) (a : Act) (w' : World) : Prop :=
  ∃ k : Nat, m = L.length - k ∧ k ≤ L.length ∧ (∀ j, j < k → q (nth lse0 L j) = false) ∧ RepX (frame0 w) ⟨[(8, 0, .v (.int .i64 k)), (7, 0, .v (.int .i64 L.length)), (0, 0, .v v), (1, 0, .fn (.func 92) [] [.ptr 0 c3 0])], [], 0, 0, 19, [], [], []⟩ a w'
set_option maxRecDepth 100000 in
set_option maxHeartbeats 8000000 in
theorem ixf_ok {P : Nat → Prop} (w0 w : World) (v : Value) (L : List Lse) (q : Lse → Bool) (c3 : Nat) (hL : RdL P w v L) (hn : L.length ≤ 1000000) (hw : Below w0.heap.size w0 w)
    (hq : ∀ w' x, Below w0.heap.size w0 w' → Calls Try.prog 92 (denL [.ag (lseC x), .ptr 0 c3 0]).toArray w' (Ret w' (.v (.bool (q x))))) : Calls Try.prog 98 (denL [.v v, .fn (.func 92) [] [.ptr 0 c3 0]]).toArray w (IxR w L q) := by
  obtain ⟨ad, cp, rfl⟩ := hL.slice
  refine enter (F := frame0 w) Try.func98 rfl [.v (.slice ad L.length cp), .fn (.func 92) [] [.ptr 0 c3 0]] [] (by simp [Try.f98]) trivial (keeps0 w) fun a hr => ?_
  refine seg cfg98_ok mixed PanicFree.body 1000 [] [] hr (by first | trivial | exact HpRep.nil | assumption) (by kernel_rfl) fun s_ hs_ => ?_
  simp (maxSteps := 10000000) [SX.vc, SX.stop, SX.contS, SX.sxStep, SX.stepPure, SX.guardIx, SX.evOp, SX.opd, SX.opds, SX.look, SX.putS, SX.gobs, SX.AllP, SX.leave, SX.lookT, SX.evBuiltin, SX.env0, cfg98, Try.f98]
  refine ⟨by (unfold SX.Ob; first | trivial | omega | ((try simp only [SX.inK]); (try simp [SX.den, SX.IsU8, SX.AllP, *]); (try omega))), ?_⟩
  intro a1 w1 hr1 _
  refine post_loop (IxLoop w (.slice ad L.length cp) L q c3) L.length ⟨0, rfl, by omega, by omega, hr1.re (by simp [envTo, SX.look]) trivial rfl rfl⟩ ?_
  rintro m a2 w2 ⟨k, rfl, hk, hs, hr2⟩
  by_cases hlt : k < L.length
  · obtain ⟨b, o0, cap, u, fz, hP, hv, hrep⟩ := hL.opn hlt
    cases hv
    have hrep2 := SO.rep_same hrep (hr2.keeps.toBelow.block _ (SO.rep_lt hrep))
    obtain ⟨x, hx⟩ : ∃ x, nth lse0 L k = x := ⟨_, rfl⟩
    have h2 := (hr2.top 0 (.sl 0 b o0 0 L.length cp 4) rfl (by simp [den])).see _ (HpAll.one hrep2)
    refine seg cfg98_ok mixed PanicFree.body 1000 [true] [] h2 (by first | trivial | exact HpRep.nil | assumption) (by kernel_rfl) fun s_ hs_ => ?_
    simp (maxSteps := 10000000) [SX.vc, SX.stop, SX.contS, SX.contB, SX.sxStep, SX.stepPure, SX.stepNew, SX.stepStore, SX.guardIx, SX.evOp, SX.opd, SX.look, SX.putS, SX.gobs, SX.AllP, SX.leave, SX.lookT, SX.evBin, SX.evInt, SX.evLoad, SX.shapeUp, SX.evIndexAddr, SX.evNew, SX.evStore, SX.TD.isAgg, cfg98, lseC, hx]
    refine ⟨by (unfold SX.Ob; first | trivial | omega | ((try simp only [SX.inK]); (try simp [SX.den, SX.IsU8, SX.AllP, *]); (try omega))), ?_⟩
    intro a3 w3 hr3 _
    refine post_call 92 [.ag (lseC x), .ptr 0 c3 0] hr3 (by first | exact wanted_none rfl | exact wanted_zero (hr3.env.same rfl rfl rfl rfl) rfl (by simp) | exact wanted_zero (hr3.env.same rfl rfl rfl rfl) rfl (by simp [*])) rfl (callable 92 Try.func92) (hq w3 x (Below.more hw (M := []) hr3.keeps (by simp))) ?_
    rintro e4 w4 ⟨rfl, hb4⟩
    refine ⟨_, rfl, ?_⟩
    have h4 := hr3.ret hb4 16 (.v (.bool (q x))) rfl _ (hr3.all.below hb4) (by simp) rfl
    by_cases hM : q x = true
    · refine seg cfg98_ok mixed PanicFree.body 1000 [true] [] h4 (by first | trivial | exact HpRep.nil | assumption) (by kernel_rfl) fun s_ hs_ => ?_
      simp (maxSteps := 10000000) [SX.vc, SX.stop, SX.contS, SX.contB, SX.sxStep, SX.stepPure, SX.guardIx, SX.evOp, SX.opd, SX.look, SX.putS, SX.gobs, SX.AllP, SX.leave, cfg98, hM]
      refine ⟨by (unfold SX.Ob; first | trivial | omega | ((try simp only [SX.inK]); (try simp [SX.den, SX.IsU8, SX.AllP, *]); (try omega))), ?_⟩
      intro a5 w5 hr5 _
      exact post_retn (end1 hr5 rfl rfl ⟨.inl ⟨k, rfl, hlt, hx ▸ hM, hs⟩, hr5.keeps.toBelow⟩).1
    · have hM' : q x = false := by simpa using hM
      refine seg cfg98_ok mixed PanicFree.body 1000 [false] [] h4 (by first | trivial | exact HpRep.nil | assumption) (by kernel_rfl) fun s_ hs_ => ?_
      simp (maxSteps := 10000000) [SX.vc, SX.stop, SX.contS, SX.contB, SX.sxStep, SX.stepPure, SX.guardIx, SX.evOp, SX.opd, SX.look, SX.putS, SX.gobs, SX.AllP, SX.leave, SX.evBin, SX.evInt, SX.arith, cfg98, hM']
      refine ⟨by (unfold SX.Ob; first | trivial | omega | ((try simp only [SX.inK]); (try simp [SX.den, SX.IsU8, SX.AllP, *]); (try omega))), ?_⟩
      intro a5 w5 hr5 _
      exact post_rnd (L.length - (k + 1)) (by omega) ⟨k + 1, rfl, hlt, fun j hj => (by
        rcases Nat.lt_or_ge j k with h | h
        · exact hs j h
        · obtain rfl : j = k := by omega
          rw [hx]; exact hM'), hr5.re (by simp [envTo, SX.look, den]) trivial rfl rfl⟩
  · obtain rfl : k = L.length := by omega
    refine seg cfg98_ok mixed PanicFree.body 1000 [false] [] hr2 (by first | trivial | exact HpRep.nil | assumption) (by kernel_rfl) fun s_ hs_ => ?_
    simp (maxSteps := 10000000) [SX.vc, SX.stop, SX.contS, SX.contB, SX.contW, SX.sxStep, SX.stepPure, SX.guardIx, SX.evOp, SX.opd, SX.look, SX.putS, SX.gobs, SX.AllP, SX.leave, SX.evBin, SX.evInt, SX.popTo, cfg98]
    refine ⟨by (unfold SX.Ob; first | trivial | omega | ((try simp only [SX.inK]); (try simp [SX.den, SX.IsU8, SX.AllP, *]); (try omega))), ?_⟩
    intro a3 w3 hr3 _
    exact post_retn (end1 hr3 rfl rfl ⟨.inr ⟨rfl, hs⟩, hr3.keeps.toBelow⟩).1
def DelR (P : Nat → Prop) (w : World) (L' : List Lse) (e : Ending) (w' : World) : Prop := ∃ v' B, e = .returned v' ∧ OwL P w' v' L' ∧ (∀ b ∈ B, P b ∧ b < w.heap.size) ∧ KeepsTo w B w'
def keepL (q : Lse → Bool) (L : List Lse) : List Lse := L.filter fun x => !q x
theorem keep_all {q : Lse → Bool} : ∀ {L : List Lse}, (∀ j, j < L.length → q (nth lse0 L j) = false) → keepL q L = L
  | [], _ => rfl
  | s :: r, h => by
    have h0 : q s = false := h 0 (by simp)
    have ih := keep_all (q := q) (L := r) fun j hj => h (j + 1) (by simpa using hj)
    unfold keepL at ih ⊢
    rw [List.filter_cons_of_pos (by simp [h0]), ih]
theorem keep_take {q : Lse → Bool} {L : List Lse} {j : Nat} {x : Lse} (h : j < L.length) (hx : nth lse0 L j = x) : keepL q (L.take (j + 1)) = keepL q (L.take j) ++ (if q x then [] else [x]) := by
  unfold keepL
  rw [take_nth (d := lse0) h, hx, List.filter_append]
  congr 1
  by_cases hq : q x = true
  · simp [hq]
  · simp [hq]
def DlLoop (w : World) (L : List Lse) (q : Lse → Bool) (c3 b N cap u : Nat) (m : Nat) (a : Act) (w' : World) : Prop :=
  ∃ (j : Nat) (row : Nat → List SV), m = L.length - j ∧ j ≤ L.length ∧ (keepL q (L.take j)).length < j ∧ (∀ r, r < (keepL q (L.take j)).length → row r = lseC (nth lse0 (keepL q (L.take j)) r)) ∧ (∀ r, (keepL q (L.take j)).length ≤ r → r < L.length → row r = lseC (nth lse0 L r)) ∧
    RepX ⟨w, w.heap.size, [b]⟩ ⟨[(6, 0, .v (.int .i64 j)), (5, 0, .v (.int .i64 (keepL q (L.take j)).length)), (0, 0, .sl 0 b 0 0 L.length cap 4), (1, 0, .fn (.func 92) [] [.ptr 0 c3 0]), (4, 0, .v (.slice none 0 0))], [(b, true, .arr 0 N row 4 u (0, 0))], 0, 0, 42, [], [], []⟩ a w'
set_option maxRecDepth 100000 in
set_option maxHeartbeats 16000000 in
theorem delf_ok {P : Nat → Prop} (w0 w : World) (v : Value) (L : List Lse) (q : Lse → Bool) (c3 : Nat) (hO : OwL P w v L) (hn : L.length ≤ 1000000) (hw : Below w0.heap.size w0 w) (hP : ∀ x, P x → w0.heap.size ≤ x)
    (hq : ∀ w' x, Below w0.heap.size w0 w' → Calls Try.prog 92 (denL [.ag (lseC x), .ptr 0 c3 0]).toArray w' (Ret w' (.v (.bool (q x))))) : Calls Try.prog 91 (denL [.v v, .fn (.func 92) [] [.ptr 0 c3 0]]).toArray w (DelR P w (keepL q L)) := by
  by_cases hdel : ∀ j, j < L.length → q (nth lse0 L j) = false
  · obtain ⟨ad, cp, rfl⟩ := hO.slice
    refine enter (F := frame0 w) Try.func91 rfl [.v (.slice ad L.length cp), .fn (.func 92) [] [.ptr 0 c3 0]] [] (by simp [Try.f91]) trivial (keeps0 w) fun a hr => ?_
    refine seg cfg91_ok mixed PanicFree.body 1000 [] [] hr (by first | trivial | exact HpRep.nil | assumption) (by kernel_rfl) fun s_ hs_ => ?_
    simp (maxSteps := 10000000) [SX.vc, SX.stop, SX.contS, SX.sxStep, SX.stepPure, SX.stepNew, SX.stepStore, SX.guardIx, SX.evOp, SX.opd, SX.look, SX.putS, SX.gobs, SX.AllP, SX.leave, SX.evNew, SX.evStore, SX.env0, cfg91, Try.f91]
    refine ⟨by (unfold SX.Ob; first | trivial | omega | ((try simp only [SX.inK]); (try simp [SX.den, SX.IsU8, SX.AllP, *]); (try omega))), ?_⟩
    intro a1 w1 hr1 _
    have hix : Calls Try.prog 98 (denL [.v (.slice ad L.length cp), .fn (.func 92) [] [.ptr 0 c3 0]]).toArray w1 (fun e w' => e = .returned (.int .i64 (-1)) ∧ Below w1.heap.size w1 w') := (ixf_ok w0 w1 _ L q c3 (hO.rd.below hr1.keeps.toBelow) hn (Below.more hw (M := []) hr1.keeps (by simp)) hq).mono fun e w' h => by
      rcases h with ⟨⟨k, _, hk, hqk, _⟩ | ⟨he, _⟩, hb⟩
      · rw [hdel k hk] at hqk; simp at hqk
      · exact ⟨he, hb⟩
    refine post_call 98 [.v (.slice ad L.length cp), .fn (.func 92) [] [.ptr 0 c3 0]] hr1 (by first | exact wanted_none rfl | exact wanted_zero (hr1.env.same rfl rfl rfl rfl) rfl (by simp) | exact wanted_zero (hr1.env.same rfl rfl rfl rfl) rfl (by simp [*])) rfl (callable 98 Try.func98) (hix) ?_
    rintro e2 w2 ⟨rfl, hb2⟩
    refine ⟨_, rfl, ?_⟩
    have h2 := hr1.ret hb2 10 (.v (.int .i64 (-1))) rfl _ (hr1.all.below hb2) (by simp) rfl
    refine seg cfg91_ok mixed PanicFree.body 1000 [true] [] h2 (by first | trivial | exact HpRep.nil | assumption) (by kernel_rfl) fun s_ hs_ => ?_
    simp (maxSteps := 10000000) [SX.vc, SX.stop, SX.contS, SX.contB, SX.sxStep, SX.stepPure, SX.guardIx, SX.evOp, SX.opd, SX.look, SX.putS, SX.gobs, SX.AllP, SX.leave, SX.evBin, SX.evInt, cfg91]
    refine ⟨by (unfold SX.Ob; first | trivial | omega | ((try simp only [SX.inK]); (try simp [SX.den, SX.IsU8, SX.AllP, *]); (try omega))), ?_⟩
    intro a3 w3 hr3 _
    exact post_retn (end1 hr3 rfl rfl ⟨_, [], rfl, by rw [keep_all hdel]; exact hO.below hr3.keeps.toBelow, by simp, hr3.keeps⟩).1
  · obtain ⟨i0, hi0, hq0⟩ : ∃ j, j < L.length ∧ q (nth lse0 L j) = true := by
      refine Classical.byContradiction fun h => hdel fun j hj => ?_
      rcases hb : q (nth lse0 L j)
      · rfl
      · exact absurd ⟨j, hj, hb⟩ h
    obtain ⟨b, N, cap, u, row, hPb, rfl, hc0, hc1, hc2, hrep, hrow⟩ := hO.opn hi0
    have hbw := SO.rep_lt hrep
    have hE : HpAll ⟨w, w.heap.size, [b]⟩ w [(b, true, .arr 0 N row 4 u (0, 0))] := ⟨⟨hrep, fun _ => .inr (by simp), by simp⟩, trivial⟩
    refine enter (F := ⟨w, w.heap.size, [b]⟩) Try.func91 rfl [.sl 0 b 0 0 L.length cap 4, .fn (.func 92) [] [.ptr 0 c3 0]] _ (by simp [Try.f91]) hE (KeepsTo.refl w _) fun a hr => ?_
    have hM0 : ∀ x ∈ [b], w0.heap.size ≤ x := by simpa using hP b hPb
    refine seg cfg91_ok mixed PanicFree.body 1000 [] [] hr (by first | trivial | exact HpRep.nil | assumption) (by kernel_rfl) fun s_ hs_ => ?_
    simp (maxSteps := 10000000) [SX.vc, SX.stop, SX.contS, SX.sxStep, SX.stepPure, SX.stepNew, SX.stepStore, SX.guardIx, SX.evOp, SX.opd, SX.look, SX.putS, SX.gobs, SX.AllP, SX.leave, SX.evNew, SX.evStore, SX.env0, cfg91, Try.f91]
    refine ⟨by (unfold SX.Ob; first | trivial | omega | ((try simp only [SX.inK]); (try simp [SX.den, SX.IsU8, SX.AllP, *]); (try omega))), ?_⟩
    intro a1 w1 hr1 _
    have hO1 : OwL P w1 (.slice (some ⟨b, 0, none⟩) L.length cap) L := .inr ⟨b, N, cap, u, row, hPb, rfl, hc0, hc1, hc2, hr1.all.1.1, hrow⟩
    have hix : Calls Try.prog 98 (denL [.sl 0 b 0 0 L.length cap 4, .fn (.func 92) [] [.ptr 0 c3 0]]).toArray w1 (fun e w' => (∃ k : Nat, e = .returned (.int .i64 k) ∧ k < L.length ∧ q (nth lse0 L k) = true ∧ ∀ j, j < k → q (nth lse0 L j) = false) ∧ Below w1.heap.size w1 w') := (ixf_ok w0 w1 (.slice (some ⟨b, 0, none⟩) L.length cap) L q c3 hO1.rd hn (Below.more hw (M := [b]) hr1.keeps hM0) hq).mono fun e w' h => by
      rcases h with ⟨⟨k, he, hk, hqk, hno⟩ | ⟨_, hno⟩, hb⟩
      · exact ⟨⟨k, he, hk, hqk, hno⟩, hb⟩
      · rw [hno i0 hi0] at hq0; simp at hq0
    refine post_call 98 [.sl 0 b 0 0 L.length cap 4, .fn (.func 92) [] [.ptr 0 c3 0]] hr1 (by first | exact wanted_none rfl | exact wanted_zero (hr1.env.same rfl rfl rfl rfl) rfl (by simp) | exact wanted_zero (hr1.env.same rfl rfl rfl rfl) rfl (by simp [*])) rfl (callable 98 Try.func98) (hix) ?_
    rintro e2 w2 ⟨⟨k, rfl, hk, hqk, hno⟩, hb2⟩
    refine ⟨_, rfl, ?_⟩
    have h2 := hr1.ret hb2 10 (.v (.int .i64 k)) rfl _ (hr1.all.below hb2) (by simp) rfl
    have hk1 : ¬ (k : Int) = -1 := by omega
    refine seg cfg91_ok mixed PanicFree.body 1000 [false] [] h2 (by first | trivial | exact HpRep.nil | assumption) (by kernel_rfl) fun s_ hs_ => ?_
    simp (maxSteps := 10000000) [SX.vc, SX.stop, SX.contS, SX.contB, SX.sxStep, SX.stepPure, SX.guardIx, SX.evOp, SX.opd, SX.look, SX.putS, SX.gobs, SX.AllP, SX.leave, SX.evBin, SX.evInt, SX.arith, cfg91, hk1]
    refine ⟨by (unfold SX.Ob; first | trivial | omega | ((try simp only [SX.inK]); (try simp [SX.den, SX.IsU8, SX.AllP, *]); (try omega))), ?_⟩
    intro a3 w3 hr3 _
    have hkt : keepL q (L.take k) = L.take k := keep_all fun j hj => by
      have hj' : j < k := by simp at hj; omega
      have e1 : nth lse0 (L.take k) j = nth lse0 L j := by
        have := nth_part (d := lse0) (L := L) (i := 0) (n := k) hj'
        simpa using this
      rw [e1]; exact hno j hj'
    have hkt1 : keepL q (L.take (k + 1)) = L.take k := by rw [keep_take hk rfl, hqk, hkt]; simp
    have hkl : (keepL q (L.take (k + 1))).length = k := by rw [hkt1]; simp; omega
    refine post_loop (DlLoop w L q c3 b N cap u) (L.length - (k + 1)) ⟨k + 1, row, rfl, hk, by omega, fun r hr' => (by
      rw [hkt1, hrow r (by omega)]
      congr 1
      have := nth_part (d := lse0) (L := L) (i := 0) (n := k) (show r < k by omega)
      simpa using this.symm), fun r _ hr' => hrow r hr', hr3.re (by simp [envTo, SX.look, den, hkl]) hr3.all rfl rfl⟩ ?_
    rintro m a4 w4 ⟨j, row4, rfl, hj, hij, hr1', hr2', hr4⟩
    obtain ⟨i, hi⟩ : ∃ i, (keepL q (L.take j)).length = i := ⟨_, rfl⟩
    rw [hi] at hij hr1' hr2' hr4
    by_cases hlt : j < L.length
    · obtain ⟨x, hx⟩ : ∃ x, nth lse0 L j = x := ⟨_, rfl⟩
      have hrj : row4 j = [.v (.int .i64 x.k), .v (.int .i64 x.h), .v (.int .i64 x.e), .v (.int .i64 x.u)] := by rw [hr2' j (by omega) hlt, hx]; rfl
      have hjN : j < N := by omega
      have hiN : i < N := by omega
      have hkt2 := keep_take (q := q) hlt hx
      obtain ⟨y, hy⟩ : ∃ y, nth lse0 L i = y := ⟨_, rfl⟩
      have hri : row4 i = [.v (.int .i64 y.k), .v (.int .i64 y.h), .v (.int .i64 y.e), .v (.int .i64 y.u)] := by rw [hr2' i (Nat.le_refl _) (by omega), hy]; rfl
      refine seg cfg91_ok mixed PanicFree.body 1000 [true] [] hr4 (by first | trivial | exact HpRep.nil | assumption) (by kernel_rfl) fun sX hsX => ?_
      simp (maxSteps := 10000000) [SX.vc, SX.stop, SX.contS, SX.contB, SX.sxStep, SX.stepPure, SX.stepNew, SX.stepStore, SX.guardIx, SX.evOp, SX.opd, SX.opds, SX.look, SX.putS, SX.gobs, SX.AllP, SX.leave, SX.lookT, SX.evBuiltin, SX.evBin, SX.evInt, SX.evLoad, SX.shapeUp, SX.evIndexAddr, SX.cellsV, SX.evNew, SX.evStore, SX.spliceL, SX.SV.cells, SX.TD.isAgg, SX.NotAgg, Go.Value.cells, cfg91, hrj]
      refine ⟨by (unfold SX.Ob; first | trivial | omega | ((try simp only [SX.inK]); (try simp [SX.den, SX.IsU8, SX.AllP, *]); (try omega))), ?_⟩
      intro a5 w5 hr5 _
      refine post_call 92 [.ag (lseC x), .ptr 0 c3 0] hr5 (by first | exact wanted_none rfl | exact wanted_zero (hr5.env.same rfl rfl rfl rfl) rfl (by simp) | exact wanted_zero (hr5.env.same rfl rfl rfl rfl) rfl (by simp [*])) rfl (callable 92 Try.func92) (hq w5 x (Below.more hw (M := [b]) hr5.keeps hM0)) ?_
      rintro e6 w6 ⟨rfl, hb6⟩
      refine ⟨_, rfl, ?_⟩
      have h6 := hr5.ret hb6 28 (.v (.bool (q x))) rfl _ (hr5.all.below hb6) (by simp) rfl
      by_cases hqx : q x = true
      · rw [hqx, if_pos rfl, List.append_nil] at hkt2
        refine seg cfg91_ok mixed PanicFree.body 1000 [false] [] h6 (by first | trivial | exact HpRep.nil | assumption) (by kernel_rfl) fun s_ hs_ => ?_
        simp (maxSteps := 10000000) [SX.vc, SX.stop, SX.contS, SX.contB, SX.sxStep, SX.stepPure, SX.guardIx, SX.evOp, SX.opd, SX.look, SX.putS, SX.gobs, SX.AllP, SX.leave, SX.evBin, SX.evInt, SX.arith, SX.evUn, cfg91, hqx]
        refine ⟨by (unfold SX.Ob; first | trivial | omega | ((try simp only [SX.inK]); (try simp [SX.den, SX.IsU8, SX.AllP, *]); (try omega))), ?_⟩
        intro a7 w7 hr7 _
        exact post_rnd (L.length - (j + 1)) (by omega) ⟨j + 1, row4, rfl, hlt, by rw [hkt2, hi]; omega, by rw [hkt2, hi]; exact hr1', by rw [hkt2, hi]; exact hr2', hr7.re (by simp [envTo, SX.look, den, hkt2, hi]) (hr7.all.take 1) rfl rfl⟩
      · have hqx' : q x = false := by simpa using hqx
        rw [hqx', if_neg (by simp)] at hkt2
        have hil : (keepL q (L.take (j + 1))).length = i + 1 := by rw [hkt2, List.length_append, hi]; rfl
        refine seg cfg91_ok mixed PanicFree.body 1000 [true] [] h6 (by first | trivial | exact HpRep.nil | assumption) (by kernel_rfl) fun s_ hs_ => ?_
        simp (maxSteps := 10000000) [SX.vc, SX.stop, SX.contS, SX.contB, SX.sxStep, SX.stepPure, SX.stepNew, SX.stepStore, SX.guardIx, SX.evOp, SX.opd, SX.look, SX.putS, SX.gobs, SX.AllP, SX.leave, SX.lookT, SX.evBin, SX.evInt, SX.arith, SX.evLoad, SX.shapeUp, SX.evIndexAddr, SX.evNew, SX.evStore, SX.spliceL, SX.SV.cells, SX.evUn, SX.TD.isAgg, SX.NotAgg, cfg91, hqx', hri]
        refine ⟨by (unfold SX.Ob; first | trivial | omega | ((try simp only [SX.inK]); (try simp [SX.den, SX.IsU8, SX.AllP, *]); (try omega))), ?_⟩
        intro a7 w7 hr7 _
        exact post_rnd (L.length - (j + 1)) (by omega) ⟨j + 1, _, rfl, hlt, by rw [hil]; omega, fun r hr' => (by
          rw [hil] at hr'
          unfold setRow
          by_cases hri' : r = i
          · subst hri'
            rw [if_pos rfl, hkt2]
            have := nth_append_right (d := lse0) (L := keepL q (L.take j)) (M := [x]) (j := 0)
            rw [hi] at this
            rw [show r + 0 = r from rfl] at this
            rw [this]
            simp [nth, lseC]
          · rw [if_neg hri', hr1' r (by omega), hkt2, nth_append_left (by omega)]), fun r hr' hrl => (by
          rw [hil] at hr'
          unfold setRow
          rw [if_neg (by omega), hr2' r (by omega) hrl]), hr7.re (by simp [envTo, SX.look, den, hil]) (hr7.all.take 1) rfl rfl⟩
    · obtain rfl : j = L.length := by omega
      rw [List.take_length] at hi hr1'
      have hci : ¬ cap = i := by omega
      refine seg cfg91_ok mixed PanicFree.body 1000 [false] [] hr4 (by first | trivial | exact HpRep.nil | assumption) (by kernel_rfl) fun s_ hs_ => ?_
      simp (maxSteps := 10000000) [SX.vc, SX.stop, SX.contS, SX.contB, SX.contW, SX.sxStep, SX.stepPure, SX.stepNew, SX.stepStore, SX.guardIx, SX.evOp, SX.opd, SX.opds, SX.optOpd, SX.look, SX.putS, SX.gobs, SX.AllP, SX.leave, SX.lookT, SX.evBuiltin, SX.evBin, SX.evInt, SX.evNew, SX.evStore, SX.evSlice, SX.bnd, SX.popTo, cfg91, hci]
      refine ⟨by (unfold SX.Ob; first | trivial | omega | ((try simp only [SX.inK]); (try simp [SX.den, SX.IsU8, SX.AllP, *]); (try omega))), ?_⟩
      intro a5 w5 hr5 _
      refine post_clear (C := cfg91) cfg91_ok hr5 rfl rfl rfl rfl rfl rfl rfl rfl rfl (by decide) rfl (by omega) fun a6 w6 hr6 => ?_
      refine seg cfg91_ok mixed PanicFree.body 1000 [] [] hr6 (by first | trivial | exact HpRep.nil | assumption) (by kernel_rfl) fun s_ hs_ => ?_
      simp (maxSteps := 10000000) [SX.vc, SX.stop, SX.contS, SX.sxStep, SX.stepPure, SX.guardIx, SX.evOp, SX.opd, SX.optOpd, SX.look, SX.putS, SX.gobs, SX.AllP, SX.leave, SX.lookT, SX.evSlice, SX.bnd, Go.Value.cells, cfg91]
      refine ⟨by (unfold SX.Ob; first | trivial | omega | ((try simp only [SX.inK]); (try simp [SX.den, SX.IsU8, SX.AllP, *]); (try omega))), ?_⟩
      intro a7 w7 hr7 _
      refine post_retn (end1 hr7 rfl rfl ⟨_, [b], rfl, ?_, by simpa using ⟨hPb, hbw⟩, hr7.keeps⟩).1
      refine .inr ⟨b, N, cap, u, _, hPb, by rw [hi]; simp [den], hc0, by omega, hc2, hr7.all.1.1, fun r hr' => ?_⟩
      rw [hi] at hr'
      rw [if_neg (by omega), hr1' r hr']
end Go.Proofs.L6
namespace Go.Proofs.L6
open Go Go.Proofs Go.SX Go.RowKit
def someL (t : Tab) (p : Lse → Bool) : List Lse := if ChkT t then t.L.filter p else []
theorem keep_not {p : Lse → Bool} {L : List Lse} : keepL (fun x => !p x) L = L.filter p := by
  unfold keepL
  simp
set_option maxRecDepth 100000 in
set_option maxHeartbeats 8000000 in
theorem some_ok {P : Nat → Prop} (g : Nat) (p : Lse → Bool) (w : World) (v : Value) (t : Tab) (c : Nat) (hL : RdL P w v t.L) (hn : t.L.length ≤ 1000000) (hcg : Callable Try.prog g)
    (hg : ∀ w' x, Below w.heap.size w w' → Calls Try.prog g (denL [.ag (lseC x), .ptr 0 c 0]).toArray w' (Ret w' (.v (.bool (p x))))) : Calls Try.prog 77 (denL [.ag (tabC t v), .fn (.func g) [] [.ptr 0 c 0]]).toArray w (OwR w (someL t p)) := by
  refine enter (F := frame0 w) Try.func77 rfl [.ag (tabC t v), .fn (.func g) [] [.ptr 0 c 0]] [] (by simp [Try.f77]) trivial (keeps0 w) fun a hr => ?_
  refine seg cfg77_ok mixed PanicFree.body 1000 [] [] hr (by first | trivial | exact HpRep.nil | assumption) (by kernel_rfl) fun sA hsA => ?_
  simp (maxSteps := 10000000) [SX.vc, SX.stop, SX.contS, SX.sxStep, SX.stepPure, SX.stepNew, SX.stepStore, SX.guardIx, SX.evOp, SX.opd, SX.look, SX.putS, SX.gobs, SX.AllP, SX.leave, SX.lookT, SX.evLoad, SX.shapeUp, SX.evNew, SX.evStore, SX.SV.cells, SX.env0, SX.TD.isAgg, cfg77, Try.f77, tabC]
  refine ⟨by (unfold SX.Ob; first | trivial | omega | ((try simp only [SX.inK]); (try simp [SX.den, SX.IsU8, SX.AllP, *]); (try omega))), ?_⟩
  intro a1 w1 hr1 _
  have hA1 := hr1.all
  have hsA : sA + 1 < w1.heap.size := SO.rep_lt hA1.2.1.1
  have h1 := hr1.see [(sA, false, .cells (tabC t v) 27), (sA + 1, false, .cells [.fn (.func g) [] [.ptr 0 c 0]] 132)] ⟨⟨hA1.1.1, by simp, by simp⟩, ⟨hA1.2.1.1, by simp, by simp⟩, trivial⟩
  have hb1 : Below w.heap.size w w1 := hr1.keeps.toBelow
  have z1 : w.heap.size ≤ w1.heap.size := hr1.keeps.size
  have hL1 := hL.below hb1
  have hq : ∀ w' x, Below w1.heap.size w1 w' → Calls Try.prog 92 (denL [.ag (lseC x), .ptr 0 (sA + 1) 0]).toArray w' (Ret w' (.v (.bool (!p x)))) := fun w' x hb =>
    some1_ok g p w' x c (sA + 1) (SO.rep_same hA1.2.1.1 (hb.block _ hsA)) hcg fun w'' hb' => hg w'' x (Below.more (Below.more hb1 (KeepsTo.below hb []) (by simp)) (KeepsTo.below hb' []) (by simp))
  refine post_call 76 [.ag [.v (.int .i64 t.last), .v (.int .i64 t.now), .v v]] h1.rebase (by first | exact wanted_none rfl | exact wanted_zero (h1.rebase.env.same rfl rfl rfl rfl) rfl (by simp) | exact wanted_zero (h1.rebase.env.same rfl rfl rfl rfl) rfl (by simp [*])) rfl (callable 76 Try.func76) (check_ok w1 v t hL1 (by omega)) ?_
  rintro e2 w2 ⟨rfl, hb2⟩
  refine ⟨_, rfl, ?_⟩
  have h2 := h1.rebase.ret hb2 6 (.v (.int .i64 (chkT t))) rfl _ (h1.rebase.all.below hb2) (by simp) rfl
  by_cases hC : ChkT t
  rotate_left
  · have hc : chkT t = 1 := if_neg hC
    have hS : someL t p = [] := if_neg hC
    refine seg cfg77_ok mixed PanicFree.body 1000 [true] [] h2 (by first | trivial | exact HpRep.nil | assumption) (by kernel_rfl) fun s_ hs_ => ?_
    simp (maxSteps := 10000000) [SX.vc, SX.stop, SX.contS, SX.contB, SX.sxStep, SX.stepPure, SX.guardIx, SX.evOp, SX.opd, SX.look, SX.putS, SX.gobs, SX.AllP, SX.leave, SX.evBin, SX.evInt, cfg77, hc]
    refine ⟨by (unfold SX.Ob; first | trivial | omega | ((try simp only [SX.inK]); (try simp [SX.den, SX.IsU8, SX.AllP, *]); (try omega))), ?_⟩
    intro a3 w3 hr3' _
    have hr3 := h1.unbase hr3'
    exact post_retn (end1 hr3 rfl rfl ⟨_, rfl, by rw [hS]; exact OwS.nil, hr3.keeps.toBelow⟩).1
  have hc : chkT t = 0 := if_pos hC
  have hS : someL t p = t.L.filter p := if_pos hC
  refine seg cfg77_ok mixed PanicFree.body 1000 [false] [] h2 (by first | trivial | exact HpRep.nil | assumption) (by kernel_rfl) fun s_ hs_ => ?_
  simp (maxSteps := 10000000) [SX.vc, SX.stop, SX.contS, SX.contB, SX.sxStep, SX.stepPure, SX.stepNew, SX.stepStore, SX.guardIx, SX.evOp, SX.opd, SX.look, SX.putS, SX.gobs, SX.AllP, SX.leave, SX.lookT, SX.evBin, SX.evInt, SX.evLoad, SX.shapeUp, SX.evFieldAddr, SX.evNew, SX.evStore, SX.TD.isAgg, cfg77, hc, tabC]
  refine ⟨by (unfold SX.Ob; first | trivial | omega | ((try simp only [SX.inK]); (try simp [SX.den, SX.IsU8, SX.AllP, *]); (try omega))), ?_⟩
  intro a3 w3 hr3' _
  have hb3 : Below w1.heap.size w1 w3 := Keeps.toBelow hr3'.keeps
  refine post_call 40 [.v v] hr3' (by first | exact wanted_none rfl | exact wanted_zero (hr3'.env.same rfl rfl rfl rfl) rfl (by simp) | exact wanted_zero (hr3'.env.same rfl rfl rfl rfl) rfl (by simp [*])) rfl (callable 40 Try.func40) (clone_all w3 v t.L (hL1.below hb3) hn) ?_
  rintro e4 w4 ⟨v4, rfl, hO4, hb4⟩
  refine ⟨_, rfl, ?_⟩
  have h4 := hr3'.ret hb4 10 (.v v4) rfl _ (hr3'.all.below hb4) (by simp) rfl
  refine seg cfg77_ok mixed PanicFree.body 1000 [] [] h4.rebase (by first | trivial | exact HpRep.nil | assumption) (by kernel_rfl) fun s_ hs_ => ?_
  simp (maxSteps := 10000000) [SX.vc, SX.stop, SX.contS, SX.sxStep, SX.stepPure, SX.stepNew, SX.stepStore, SX.guardIx, SX.evOp, SX.opd, SX.opds, SX.look, SX.putS, SX.gobs, SX.AllP, SX.leave, SX.evNew, SX.evStore, cfg77]
  refine ⟨by (unfold SX.Ob; first | trivial | omega | ((try simp only [SX.inK]); (try simp [SX.den, SX.IsU8, SX.AllP, *]); (try omega))), ?_⟩
  intro a5 w5 hr5'' _
  have hr5' := h4.unbase hr5''
  have hO5 := hO4.keep hr5''.keeps (by simp [mutB])
  have hb5 : Below w1.heap.size w1 w5 := Keeps.toBelow hr5'.keeps
  have z3 : w1.heap.size ≤ w3.heap.size := hb3.size
  have hde := delf_ok w1 w5 v4 t.L (fun x => !p x) (sA + 1) hO5 hn hb5 (fun x hx => by omega) hq
  rw [keep_not] at hde
  refine post_call 91 [.v v4, .fn (.func 92) [] [.ptr 1 (sA + 1) 0]] hr5' (wanted_none rfl) rfl (callable 91 Try.func91) hde ?_
  rintro e6 w6 ⟨v6, B, rfl, hO6, hB, hk6⟩
  refine ⟨_, rfl, ?_⟩
  have h6 := hr5'.retK hk6 (fun x hx => .inl (Nat.le_trans z3 (hB x hx).1)) 12 (.v v6) rfl [] trivial (by simp) rfl
  refine seg cfg77_ok mixed PanicFree.body 1000 [] [] h6.rebase (by first | trivial | exact HpRep.nil | assumption) (by kernel_rfl) fun s_ hs_ => ?_
  simp (maxSteps := 10000000) [SX.vc, SX.stop, SX.contS, SX.sxStep, SX.stepPure, SX.stepNew, SX.stepStore, SX.guardIx, SX.evOp, SX.opd, SX.opds, SX.look, SX.putS, SX.gobs, SX.AllP, SX.leave, SX.evNew, SX.evStore, cfg77]
  refine ⟨by (unfold SX.Ob; first | trivial | omega | ((try simp only [SX.inK]); (try simp [SX.den, SX.IsU8, SX.AllP, *]); (try omega))), ?_⟩
  intro a7 w7 hr7'' _
  have hr7 := h1.unbase (h6.unbase hr7'')
  exact post_retn (end1 hr7 rfl rfl ⟨v6, rfl, by rw [hS]; exact (hO6.mono (P' := fun x => w.heap.size ≤ x) fun x _ h => by omega).keep hr7''.keeps (by simp [mutB]), hr7.keeps.toBelow⟩).1
set_option maxRecDepth 100000 in
set_option maxHeartbeats 8000000 in
theorem tick1_ok (w : World) (x : Lse) (c : Nat) (n : Int) (hc : (SO.cells [.v (.int .i64 n)] 3).rep w c) : Calls Try.prog 78 (denL [.ag (lseC x), .ptr 0 c 0]).toArray w (Ret w (.v (.bool (decide (x.u ≤ n))))) := by
  refine enter (F := frame0 w) Try.func78 rfl [.ag (lseC x), .ptr 0 c 0] [(c, false, .cells [.v (.int .i64 n)] 3)] (by simp [Try.f78]) (HpAll.one hc) (keeps0 w) fun a hr => ?_
  refine seg cfg78_ok mixed PanicFree.body 1000 [] [] hr (by first | trivial | exact HpRep.nil | assumption) (by kernel_rfl) fun s_ hs_ => ?_
  simp (maxSteps := 10000000) [SX.vc, SX.stop, SX.contS, SX.sxStep, SX.stepPure, SX.stepNew, SX.guardIx, SX.evOp, SX.opd, SX.look, SX.putS, SX.gobs, SX.AllP, SX.leave, SX.lookT, SX.evBin, SX.evInt, SX.evLoad, SX.shapeUp, SX.evFieldAddr, SX.evNew, SX.SV.cells, SX.env0, SX.TD.isAgg, cfg78, Try.f78, lseC]
  refine ⟨by (unfold SX.Ob; first | trivial | omega | ((try simp only [SX.inK]); (try simp [SX.den, SX.IsU8, SX.AllP, *]); (try omega))), ?_⟩
  intro a1 w1 hr1 _
  exact post_retn (end1 hr1 rfl rfl ⟨rfl, hr1.keeps.toBelow⟩).1
set_option maxRecDepth 100000 in
set_option maxHeartbeats 8000000 in
theorem tick2_ok (w : World) (x : Lse) (c : Nat) (n : Int) (hc : (SO.cells [.v (.int .i64 n)] 3).rep w c) : Calls Try.prog 79 (denL [.ag (lseC x), .ptr 0 c 0]).toArray w (Ret w (.v (.bool (decide (n < x.u))))) := by
  refine enter (F := frame0 w) Try.func79 rfl [.ag (lseC x), .ptr 0 c 0] [(c, false, .cells [.v (.int .i64 n)] 3)] (by simp [Try.f79]) (HpAll.one hc) (keeps0 w) fun a hr => ?_
  refine seg cfg79_ok mixed PanicFree.body 1000 [] [] hr (by first | trivial | exact HpRep.nil | assumption) (by kernel_rfl) fun s_ hs_ => ?_
  simp (maxSteps := 10000000) [SX.vc, SX.stop, SX.contS, SX.sxStep, SX.stepPure, SX.stepNew, SX.guardIx, SX.evOp, SX.opd, SX.look, SX.putS, SX.gobs, SX.AllP, SX.leave, SX.lookT, SX.evBin, SX.evInt, SX.evLoad, SX.shapeUp, SX.evFieldAddr, SX.evNew, SX.SV.cells, SX.env0, SX.TD.isAgg, cfg79, Try.f79, lseC]
  refine ⟨by (unfold SX.Ob; first | trivial | omega | ((try simp only [SX.inK]); (try simp [SX.den, SX.IsU8, SX.AllP, *]); (try omega))), ?_⟩
  intro a1 w1 hr1 _
  exact post_retn (end1 hr1 rfl rfl ⟨rfl, hr1.keeps.toBelow⟩).1
def TickOK (t : Tab) (n : Int) : Prop := ChkT t ∧ t.now ≤ n
instance (t : Tab) (n : Int) : Decidable (TickOK t n) := by unfold TickOK; infer_instance
def tickE (t : Tab) (n : Int) : Int := if TickOK t n then 0 else 1
def tab0 : Tab := ⟨0, 0, []⟩
def tickT (t : Tab) (n : Int) : Tab := if TickOK t n then ⟨t.last, n, t.L.filter fun x => decide (n < x.u)⟩ else tab0
def tickO (t : Tab) (n : Int) : List Lse := if TickOK t n then t.L.filter fun x => decide (x.u ≤ n) else []
theorem endCTT {P : Program} {fn : Func} {R : Ending → World → Prop} {F : Fr} {st : St} {a : Act} {w : World} (hr : RepX F st a w) {t ty v z : Nat} (hres : fn.results = #[.cell t ty, .tmp v, .tmp z]) {i b u : Nat} {m : Bool} {l : List SV} {ti : TI} (hl : lookD st.env t = some (.ptr i b 0)) (hi : st.hp[i]? = some (b, m, .cells l u)) (ht : ti.ok P ty)
    {x y y2 : SV} (hs : shapeUp ti.d.isAgg ti.sz l = some x) (hv : lookD st.env v = some y) (hv2 : lookD st.env z = some y2) (hR : R (.returned (.tuple #[den x, den y, den y2])) w) : bodyPost P fn R .ret a w ∧ bodyPost P fn R .normal a w := by
  have h1 := hr.cellResult hl hi ht hs
  have h2 := hr.slot hv
  have h3 := hr.slot hv2
  refine bodyPost_of hr.env.2.1 (v := .tuple #[den x, den y, den y2]) ?_ hR
  simp only [Array.getD_eq_getD_getElem?] at h2 h3
  simp [results, hres, h1.1, h1.2, h2, h3]
def TickR (w : World) (t : Tab) (n : Int) (e : Ending) (w' : World) : Prop :=
  ∃ v1 v2, e = .returned (den (.tu [.ag (tabC (tickT t n) v1), .v v2, .v (.int .i64 (tickE t n))])) ∧ RdL (fun x => w.heap.size ≤ x) w' v1 (tickT t n).L ∧ RdL (fun x => w.heap.size ≤ x) w' v2 (tickO t n) ∧ Below w.heap.size w w'
set_option maxRecDepth 100000 in
set_option maxHeartbeats 16000000 in
theorem Tick_ok {P : Nat → Prop} (w : World) (v : Value) (t : Tab) (n : Int) (hL : RdL P w v t.L) (hn : t.L.length ≤ 1000000) : Calls Try.prog 59 (denL [.ag (tabC t v), .v (.int .i64 n)]).toArray w (TickR w t n) := by
  refine enter (F := frame0 w) Try.func59 rfl [.ag (tabC t v), .v (.int .i64 n)] [] (by simp [Try.f59]) trivial (keeps0 w) fun a hr => ?_
  refine seg cfg59_ok mixed PanicFree.body 1000 [] [] hr (by first | trivial | exact HpRep.nil | assumption) (by kernel_rfl) fun sA hsA => ?_
  simp (maxSteps := 10000000) [SX.vc, SX.stop, SX.contS, SX.sxStep, SX.stepPure, SX.stepNew, SX.stepStore, SX.guardIx, SX.evOp, SX.opd, SX.look, SX.putS, SX.gobs, SX.AllP, SX.leave, SX.lookT, SX.evLoad, SX.shapeUp, SX.cellsV, SX.evNew, SX.evStore, SX.SV.cells, SX.env0, SX.TD.isAgg, Go.Value.cells, cfg59, Try.f59, tabC]
  refine ⟨by (unfold SX.Ob; first | trivial | omega | ((try simp only [SX.inK]); (try simp [SX.den, SX.IsU8, SX.AllP, *]); (try omega))), ?_⟩
  intro a1 w1 hr1 _
  refine post_call 76 [.ag [.v (.int .i64 t.last), .v (.int .i64 t.now), .v v]] hr1 (by first | exact wanted_none rfl | exact wanted_zero (hr1.env.same rfl rfl rfl rfl) rfl (by simp) | exact wanted_zero (hr1.env.same rfl rfl rfl rfl) rfl (by simp [*])) rfl (callable 76 Try.func76) (check_ok w1 v t (hL.below hr1.keeps.toBelow) (by omega)) ?_
  rintro e2 w2 ⟨rfl, hb2⟩
  refine ⟨_, rfl, ?_⟩
  have h2 := hr1.ret hb2 10 (.v (.int .i64 (chkT t))) rfl _ (hr1.all.below hb2) (by simp) rfl
  have bad : ¬ TickOK t n → tickE t n = 1 ∧ tickT t n = tab0 ∧ tickO t n = [] := fun h => ⟨if_neg h, if_neg h, if_neg h⟩
  by_cases hC : ChkT t
  rotate_left
  · have hc : chkT t = 1 := if_neg hC
    obtain ⟨hE, hG, hX⟩ := bad fun h => hC h.1
    refine seg cfg59_ok mixed PanicFree.body 1000 [true] [(12, true)] h2 (by first | trivial | exact HpRep.nil | assumption) (by kernel_rfl) fun s_ hs_ => ?_
    simp (maxSteps := 10000000) [SX.vc, SX.stop, SX.contS, SX.contB, SX.sxStep, SX.stepPure, SX.stepNew, SX.stepStore, SX.guardIx, SX.evOp, SX.opd, SX.opds, SX.look, SX.putS, SX.gobs, SX.AllP, SX.leave, SX.lookB, SX.lookT, SX.evBin, SX.evInt, SX.evFill, SX.evBuild, SX.szs, SX.cellsV, SX.evNew, SX.evStore, SX.spliceL, SX.SV.cells, SX.evPick, SX.cnd, SX.NotAgg, Go.Value.cells, Go.undef, cfg59, hc]
    refine ⟨by (unfold SX.Ob; first | trivial | omega | ((try simp only [SX.inK]); (try simp [SX.den, SX.IsU8, SX.AllP, *]); (try omega))), ?_⟩
    intro a3 w3 hr3 _
    exact post_retn (endCTT hr3 rfl rfl rfl tok27 rfl rfl rfl ⟨.slice none 0 0, .slice none 0 0, by rw [hE, hG]; simp [den, denL, tabC, tab0], by rw [hG]; exact OwS.nil.rd, by rw [hX]; exact OwS.nil.rd, hr3.keeps.toBelow⟩).1
  have hc : chkT t = 0 := if_pos hC
  by_cases hnow : n < t.now
  · obtain ⟨hE, hG, hX⟩ := bad fun h => by have := h.2; omega
    refine seg cfg59_ok mixed PanicFree.body 1000 [true] [(12, false)] h2 (by first | trivial | exact HpRep.nil | assumption) (by kernel_rfl) fun s_ hs_ => ?_
    simp (maxSteps := 10000000) [SX.vc, SX.stop, SX.contS, SX.contB, SX.sxStep, SX.stepPure, SX.stepNew, SX.stepStore, SX.guardIx, SX.evOp, SX.opd, SX.opds, SX.look, SX.putS, SX.gobs, SX.AllP, SX.leave, SX.lookB, SX.lookT, SX.evBin, SX.evInt, SX.evLoad, SX.shapeUp, SX.evFieldAddr, SX.evFill, SX.evBuild, SX.szs, SX.cellsV, SX.evNew, SX.evStore, SX.spliceL, SX.SV.cells, SX.evPick, SX.cnd, SX.TD.isAgg, SX.NotAgg, Go.Value.cells, cfg59, hc, hnow]
    refine ⟨by (unfold SX.Ob; first | trivial | omega | ((try simp only [SX.inK]); (try simp [SX.den, SX.IsU8, SX.AllP, *]); (try omega))), ?_⟩
    intro a3 w3 hr3 _
    exact post_retn (endCTT hr3 rfl rfl rfl tok27 rfl rfl rfl ⟨.slice none 0 0, .slice none 0 0, by rw [hE, hG]; simp [den, denL, tabC, tab0], by rw [hG]; exact OwS.nil.rd, by rw [hX]; exact OwS.nil.rd, hr3.keeps.toBelow⟩).1
  have hOK : TickOK t n := ⟨hC, by omega⟩
  have hE : tickE t n = 0 := if_pos hOK
  have hG : tickT t n = ⟨t.last, n, t.L.filter fun x => decide (n < x.u)⟩ := if_pos hOK
  have hX : tickO t n = t.L.filter fun x => decide (x.u ≤ n) := if_pos hOK
  have hS : ∀ p, someL t p = t.L.filter p := fun p => if_pos hC
  refine seg cfg59_ok mixed PanicFree.body 1000 [false] [(12, false)] h2 (by first | trivial | exact HpRep.nil | assumption) (by kernel_rfl) fun s_ hs_ => ?_
  simp (maxSteps := 10000000) [SX.vc, SX.stop, SX.contS, SX.contB, SX.sxStep, SX.stepPure, SX.stepNew, SX.stepStore, SX.guardIx, SX.evOp, SX.opd, SX.opds, SX.look, SX.putS, SX.gobs, SX.AllP, SX.leave, SX.lookB, SX.lookT, SX.evBin, SX.evInt, SX.evLoad, SX.shapeUp, SX.evFieldAddr, SX.evNew, SX.evStore, SX.evPick, SX.cnd, SX.TD.isAgg, cfg59, hc, hnow]
  refine ⟨by (unfold SX.Ob; first | trivial | omega | ((try simp only [SX.inK]); (try simp [SX.den, SX.IsU8, SX.AllP, *]); (try omega))), ?_⟩
  intro a3 w3 hr3 _
  have hA3 := hr3.all
  have hs3 : sA + 1 < w3.heap.size := SO.rep_lt hA3.2.1.1
  have hs3' : sA + 2 < w3.heap.size := SO.rep_lt hA3.2.2.1.1
  have z3 : w.heap.size ≤ w3.heap.size := hr3.keeps.size
  refine post_call 77 [.ag [.v (.int .i64 t.last), .v (.int .i64 t.now), .v v], .fn (.func 78) [] [.ptr 1 (sA + 1) 0]] hr3 (by first | exact wanted_none rfl | exact wanted_zero (hr3.env.same rfl rfl rfl rfl) rfl (by simp) | exact wanted_zero (hr3.env.same rfl rfl rfl rfl) rfl (by simp [*])) rfl (callable 77 Try.func77) (some_ok 78 _ w3 v t (sA + 1) (hL.below hr3.keeps.toBelow) hn (callable 78 Try.func78) (fun w' x hb => tick1_ok w' x (sA + 1) n (SO.rep_same hA3.2.1.1 (hb.block _ hs3)))) ?_
  rintro e4 w4 ⟨v4, rfl, hO4, hb4⟩
  refine ⟨_, rfl, ?_⟩
  have h4 := hr3.ret hb4 21 (.v v4) rfl _ (hr3.all.below hb4) (by simp) rfl
  rw [hS] at hO4
  refine seg cfg59_ok mixed PanicFree.body 1000 [] [] h4.rebase (by first | trivial | exact HpRep.nil | assumption) (by kernel_rfl) fun s_ hs_ => ?_
  simp (maxSteps := 10000000) [SX.vc, SX.stop, SX.contS, SX.sxStep, SX.stepPure, SX.stepNew, SX.stepStore, SX.guardIx, SX.evOp, SX.opd, SX.opds, SX.look, SX.putS, SX.gobs, SX.AllP, SX.leave, SX.lookT, SX.evLoad, SX.shapeUp, SX.evFieldAddr, SX.evFill, SX.evBuild, SX.szs, SX.cellsV, SX.evNew, SX.evStore, SX.spliceL, SX.SV.cells, SX.TD.isAgg, SX.NotAgg, Go.Value.cells, cfg59]
  refine ⟨by (unfold SX.Ob; first | trivial | omega | ((try simp only [SX.inK]); (try simp [SX.den, SX.IsU8, SX.AllP, *]); (try omega))), ?_⟩
  intro a5 w5 hr5' _
  have hr5 := h4.unbase hr5'
  have hA5 := hr5.all
  have hs5 : sA + 1 < w5.heap.size := SO.rep_lt hA5.2.1.1
  have hO5 := hO4.keep hr5'.keeps (by simp [mutB]; omega)
  refine post_call 77 [.ag [.v (.int .i64 t.last), .v (.int .i64 t.now), .v v], .fn (.func 79) [] [.ptr 1 (sA + 1) 0]] hr5 (by first | exact wanted_none rfl | exact wanted_zero (hr5.env.same rfl rfl rfl rfl) rfl (by simp) | exact wanted_zero (hr5.env.same rfl rfl rfl rfl) rfl (by simp [*])) rfl (callable 77 Try.func77) (some_ok 79 _ w5 v t (sA + 1) (hL.below hr5.keeps.toBelow) hn (callable 79 Try.func79) (fun w' x hb => tick2_ok w' x (sA + 1) n (SO.rep_same hA5.2.1.1 (hb.block _ hs5)))) ?_
  rintro e6 w6 ⟨v6, rfl, hO6, hb6⟩
  refine ⟨_, rfl, ?_⟩
  have h6 := hr5.ret hb6 24 (.v v6) rfl _ (hr5.all.below hb6) (by simp) rfl
  rw [hS] at hO6
  have hO6' := hO5.below hb6
  obtain ⟨ad6, cp6, rfl⟩ := hO6.slice
  have z5 : w3.heap.size ≤ w5.heap.size := Nat.le_trans hb4.size hr5'.keeps.size
  refine seg cfg59_ok mixed PanicFree.body 1000 [] [] h6.rebase (by first | trivial | exact HpRep.nil | assumption) (by kernel_rfl) fun s_ hs_ => ?_
  simp (maxSteps := 10000000) [SX.vc, SX.stop, SX.contS, SX.sxStep, SX.stepPure, SX.stepNew, SX.stepStore, SX.guardIx, SX.evOp, SX.opd, SX.opds, SX.look, SX.putS, SX.gobs, SX.AllP, SX.leave, SX.lookT, SX.evLoad, SX.shapeUp, SX.evFieldAddr, SX.evFill, SX.evBuild, SX.szs, SX.cellsV, SX.evNew, SX.evStore, SX.spliceL, SX.SV.cells, SX.TD.isAgg, SX.NotAgg, Go.Value.cells, cfg59]
  refine ⟨by (unfold SX.Ob; first | trivial | omega | ((try simp only [SX.inK]); (try simp [SX.den, SX.IsU8, SX.AllP, *]); (try omega))), ?_⟩
  intro a7 w7 hr7' _
  have hr7 := h6.unbase hr7'
  have hO7 := (hO6.rd.keep hr7'.keeps (by simp [mutB]; omega)).mono (P' := fun x => w.heap.size ≤ x) fun x _ h => by omega
  have hO7' := (hO6'.rd.keep hr7'.keeps (by simp [mutB]; omega)).mono (P' := fun x => w.heap.size ≤ x) fun x _ h => by omega
  exact post_retn (endCTT hr7 rfl rfl rfl tok27 rfl rfl rfl ⟨.slice ad6 (List.filter (fun x => decide (n < x.u)) t.L).length cp6, v4, by rw [hE, hG]; simp [den, denL, tabC], by rw [hG]; exact hO7, by rw [hX]; exact hO7', hr7.keeps.toBelow⟩).1
end Go.Proofs.L6
