/- Leases: LeaseNext walked. -/
import Derived.Test.YtnabelpgmcenlaaLX
import Derived.Test.YtnabelpgmcenlaaLR
namespace Go.Proofs
set_option linter.unusedVariables false
set_option linter.unusedSimpArgs false
open Go Go.SX Go.RowKit

theorem next_all {t : Tab} (hC : ChkT t) : someL t (nextP []) = t.L := by
  rw [someL, if_pos hC]
  exact List.filter_eq_self.2 fun x _ => by simp [nextP]
/-- What is told next. -/
theorem next_law {t : Tab} {n : Int} (hC : ChkT t) (h : NextP t [] n) (hne : t.L ≠ []) : t.now < n ∧ TickOK t (n - 1) ∧ TickOK t n ∧ tickO t (n - 1) = [] ∧ (tickT t (n - 1)).L.length = t.L.length ∧ 0 < (tickO t n).length ∧ (tickT t n).L.length + (tickO t n).length = t.L.length ∧ ∀ x ∈ tickO t n, x.u = n := by
  obtain ⟨_, h2⟩ := h
  rw [next_all hC] at h2
  obtain ⟨x, hx, hxn, hmin⟩ := h2 hne
  have hb := ((chkT_iff t).1 hC).1
  have h1 : t.now < n := by have := (hb x hx).2.2.2.2.2; omega
  have k1 : TickOK t (n - 1) := ⟨hC, by omega⟩
  have k2 : TickOK t n := ⟨hC, by omega⟩
  have e1 : tickO t (n - 1) = t.L.filter fun x => decide (x.u ≤ n - 1) := if_pos k1
  have e2 : tickO t n = t.L.filter fun x => decide (x.u ≤ n) := if_pos k2
  have e3 : tickT t (n - 1) = ⟨t.last, n - 1, t.L.filter fun x => decide (n - 1 < x.u)⟩ := if_pos k1
  have e4 : tickT t n = ⟨t.last, n, t.L.filter fun x => decide (n < x.u)⟩ := if_pos k2
  rw [e1, e2, e3, e4]
  refine ⟨h1, k1, k2, ?_, ?_, ?_, ?_, ?_⟩
  · exact List.filter_eq_nil_iff.2 fun y hy => by have := hmin y hy; simp; omega
  · show (t.L.filter _).length = _
    rw [List.filter_eq_self.2 fun y hy => by have := hmin y hy; simp; omega]
  · exact List.length_pos_of_mem (List.mem_filter.2 ⟨hx, by simp; omega⟩)
  · have : ∀ L : List Lse, (L.filter fun x => decide (n < x.u)).length + (L.filter fun x => decide (x.u ≤ n)).length = L.length := fun L => by
      induction L with
      | nil => rfl
      | cons s r ih =>
        by_cases hs : n < s.u
        · rw [List.filter_cons_of_pos (by simpa using hs), List.filter_cons_of_neg (by simp; omega)]
          simp only [List.length_cons]
          omega
        · rw [List.filter_cons_of_neg (by simpa using hs), List.filter_cons_of_pos (by simp; omega)]
          simp only [List.length_cons]
          omega
    exact this t.L
  · intro y hy
    obtain ⟨a, b⟩ := List.mem_filter.1 hy
    have := hmin y a
    have b' : y.u ≤ n := by simpa using b
    omega

def cntH (L : List Lse) (h : Nat) : Nat := (L.filter fun x => decide (x.h < (h : Int))).length
theorem cntH_zero {t : Tab} (hC : ChkT t) : cntH t.L 0 = 0 := by
  have hb := ((chkT_iff t).1 hC).1
  unfold cntH
  rw [List.filter_eq_nil_iff.2 fun y hy => by have := (hb y hy).2.1; simp; omega]
  rfl
theorem cntH_all {t : Tab} (hC : ChkT t) : cntH t.L 8 = t.L.length := by
  have hb := ((chkT_iff t).1 hC).1
  unfold cntH
  rw [List.filter_eq_self.2 fun y hy => by have := (hb y hy).2.2.1; simp; omega]
theorem cntH_le (L : List Lse) (h : Nat) : cntH L h ≤ L.length := List.length_filter_le _ _
theorem cntH_succ {t : Tab} (hC : ChkT t) (h : Nat) : cntH t.L (h + 1) = cntH t.L h + (ofL t h).length := by
  have : ofL t h = (t.L.filter fun x => decide (x.h = (h : Int))).map (·.k) := by rw [ofL, someL, if_pos hC]
  rw [this, List.length_map]
  unfold cntH
  generalize t.L = L
  induction L with
  | nil => rfl
  | cons s r ih =>
    by_cases h1 : s.h < (h : Int)
    · rw [List.filter_cons_of_pos (by simp; omega), List.filter_cons_of_pos (by simpa using h1), List.filter_cons_of_neg (by simp; omega)]
      simp only [List.length_cons]
      omega
    · by_cases h2 : s.h = (h : Int)
      · rw [List.filter_cons_of_pos (by simp; omega), List.filter_cons_of_neg (by simpa using h1), List.filter_cons_of_pos (by simpa using h2)]
        simp only [List.length_cons]
        omega
      · rw [List.filter_cons_of_neg (by simp; omega), List.filter_cons_of_neg (by simpa using h1), List.filter_cons_of_neg (by simpa using h2)]
        exact ih

def ThenLoop (F : Fr) (H : Hp) (ps : SV) (X : List Lse) (v : Value) (n : Int) (m : Nat) (a : Act) (w' : World) : Prop :=
  ∃ (k : Nat), m = X.length - k ∧ k ≤ X.length ∧ RepX F ⟨[(94, 0, .v (.int .i64 k)), (93, 0, .v (.int .i64 X.length)), (92, 0, .v v), (4, 0, .v (.int .i64 n)), (3, 0, .v (.bool true)), (1, 0, ps)], H, 0, 0, 121, [], [], []⟩ a w'
def ManyLoop (F : Fr) (H : Hp) (ps : SV) (L : List Lse) (m : Nat) (a : Act) (w' : World) : Prop :=
  ∃ (h : Nat), m = 8 - h ∧ h ≤ 8 ∧ RepX F ⟨[(103, 0, .v (.int .i64 h)), (13, 0, .v (.int .i64 (cntH L h))), (3, 0, .v (.bool true)), (1, 0, ps)], H, 0, 0, 121, [], [], []⟩ a w'

set_option maxRecDepth 100000 in
set_option maxHeartbeats 32000000 in
/-- LeaseNext. -/
theorem lnext_ok (w : World) (v : Value) (t : Tab) (hL : RdL (fun x => x < w.heap.size) w v t.L) (hn : t.L.length ≤ 1000000000000000) (hu : ∀ x ∈ t.L, inK x.u) : Calls Try.prog 3 #[den (.ag (tabC t v))] w (fun ev w' => ev = .returned (.bool true) ∧ Below w.heap.size w w') := by
  obtain ⟨ad, cp, rfl⟩ := hL.slice
  refine enter (F := frame0 w) Try.func3 rfl [.ag (tabC t (.slice ad t.L.length cp))] [] (by simp [Try.f3, denL, den]) trivial (keeps0 w) fun a hr => ?_
  refine seg cfg3_ok mixed PanicFree.body 1000 [] [] hr (by first | trivial | exact HpRep.nil | assumption) (by kernel_rfl) fun sT hsT => ?_
  simp (maxSteps := 10000000) [SX.vc, SX.stop, SX.contS, SX.contB, SX.contW, SX.contR, SX.contD, SX.sxStep, SX.stepPure, SX.stepNew, SX.stepStore, SX.stepKeep, SX.guardIx, SX.evOp, SX.opd, SX.opds, SX.optOpd, SX.look, SX.putS, SX.gobs, SX.AllP, SX.leave, SX.lookC, SX.lookB, SX.lookT, SX.lookN, SX.findK, SX.evBuiltin, SX.ints, SX.foldI, SX.evBin, SX.evInt, SX.evStr, SX.evEq, SX.arith, SX.evLoad, SX.shapeUp, SX.evFieldAddr, SX.evField, SX.evIndexAddr, SX.evIndex, SX.evFill, SX.evBuild, SX.szs, SX.cellsV, SX.evNew, SX.evStore, SX.spliceL, SX.SV.cells, SX.evConv, SX.evSlice, SX.bnd, SX.evNil, SX.evUn, SX.evPick, SX.pickOpd, SX.popTo, SX.cnd, SX.env0, SX.TD.isAgg, SX.TD.isIface, SX.tails, SX.NotAgg, SX.evLookup, SX.evConvH, SX.evPtrEq, SX.isCells, SX.thaw, SX.frz, SX.fixB, SX.rootIx, SX.Froz, SX.frzStep, SX.fork, Go.Value.cells, Go.undef, cfg3, Try.f3, tabC]
  refine ⟨by (unfold SX.Ob; first | trivial | omega | ((try simp only [SX.inK]); (try simp [SX.den, SX.IsU8, SX.AllP, *]); (try omega))), ?_⟩
  intro a1 w1 hr1 _
  refine post_call 9 [] hr1 (by first | exact wanted_none rfl | exact wanted_zero (hr1.env.same rfl rfl rfl rfl) rfl (by simp) | exact wanted_zero (hr1.env.same rfl rfl rfl rfl) rfl (by simp [*])) rfl (callable 9 Try.func9) (live_ok w1) ?_
  rintro e2' w2 ⟨rfl, hb2⟩
  refine ⟨_, rfl, ?_⟩
  have h2 := hr1.ret hb2 15 (.v (.bool true)) rfl _ (hr1.all.below hb2) (by simp) rfl
  refine seg cfg3_ok mixed PanicFree.body 1000 [] [] h2 (by first | trivial | exact HpRep.nil | assumption) (by kernel_rfl) fun s_ hs_ => ?_
  simp (maxSteps := 10000000) [SX.vc, SX.stop, SX.contS, SX.contB, SX.contW, SX.contR, SX.contD, SX.sxStep, SX.stepPure, SX.stepNew, SX.stepStore, SX.stepKeep, SX.guardIx, SX.evOp, SX.opd, SX.opds, SX.optOpd, SX.look, SX.putS, SX.gobs, SX.AllP, SX.leave, SX.lookC, SX.lookB, SX.lookT, SX.lookN, SX.findK, SX.evBuiltin, SX.ints, SX.foldI, SX.evBin, SX.evInt, SX.evStr, SX.evEq, SX.arith, SX.evLoad, SX.shapeUp, SX.evFieldAddr, SX.evField, SX.evIndexAddr, SX.evIndex, SX.evFill, SX.evBuild, SX.szs, SX.cellsV, SX.evNew, SX.evStore, SX.spliceL, SX.SV.cells, SX.evConv, SX.evSlice, SX.bnd, SX.evNil, SX.evUn, SX.evPick, SX.pickOpd, SX.popTo, SX.cnd, SX.env0, SX.TD.isAgg, SX.TD.isIface, SX.tails, SX.NotAgg, SX.evLookup, SX.evConvH, SX.evPtrEq, SX.isCells, SX.thaw, SX.frz, SX.fixB, SX.rootIx, SX.Froz, SX.frzStep, SX.fork, Go.Value.cells, Go.undef, cfg3]
  refine ⟨by (unfold SX.Ob; first | trivial | omega | ((try simp only [SX.inK]); (try simp [SX.den, SX.IsU8, SX.AllP, *]); (try omega))), ?_⟩
  intro a3 w3 hr3 _
  refine post_call 10 [.ag [.v (.int .i64 t.last), .v (.int .i64 t.now), .v (.slice ad t.L.length cp)], .v (.slice none 0 0)] hr3 (by first | exact wanted_none rfl | exact wanted_zero (hr3.env.same rfl rfl rfl rfl) rfl (by simp) | exact wanted_zero (hr3.env.same rfl rfl rfl rfl) rfl (by simp [*])) rfl (callable 10 Try.func10) (few_ok w3 _ t none 0 0 (hL.below hr3.keeps.toBelow)) ?_
  rintro e4 w4 ⟨rfl, hb4⟩
  refine ⟨_, rfl, ?_⟩
  have h4 := hr3.ret hb4 17 (.v (.bool (decide (FewP t 0)))) rfl _ (hr3.all.below hb4) (by simp) rfl
  by_cases hF : FewP t 0
  rotate_left
  · refine seg cfg3_ok mixed PanicFree.body 1000 [true] [(19, true)] h4 (by first | trivial | exact HpRep.nil | assumption) (by kernel_rfl) fun s_ hs_ => ?_
    simp (maxSteps := 10000000) [SX.vc, SX.stop, SX.contS, SX.contB, SX.contW, SX.contR, SX.contD, SX.sxStep, SX.stepPure, SX.stepNew, SX.stepStore, SX.stepKeep, SX.guardIx, SX.evOp, SX.opd, SX.opds, SX.optOpd, SX.look, SX.putS, SX.gobs, SX.AllP, SX.leave, SX.lookC, SX.lookB, SX.lookT, SX.lookN, SX.findK, SX.evBuiltin, SX.ints, SX.foldI, SX.evBin, SX.evInt, SX.evStr, SX.evEq, SX.arith, SX.evLoad, SX.shapeUp, SX.evFieldAddr, SX.evField, SX.evIndexAddr, SX.evIndex, SX.evFill, SX.evBuild, SX.szs, SX.cellsV, SX.evNew, SX.evStore, SX.spliceL, SX.SV.cells, SX.evConv, SX.evSlice, SX.bnd, SX.evNil, SX.evUn, SX.evPick, SX.pickOpd, SX.popTo, SX.cnd, SX.env0, SX.TD.isAgg, SX.TD.isIface, SX.tails, SX.NotAgg, SX.evLookup, SX.evConvH, SX.evPtrEq, SX.isCells, SX.thaw, SX.frz, SX.fixB, SX.rootIx, SX.Froz, SX.frzStep, SX.fork, Go.Value.cells, Go.undef, cfg3, hF]
    refine ⟨by (unfold SX.Ob; first | trivial | omega | ((try simp only [SX.inK]); (try simp [SX.den, SX.IsU8, SX.AllP, *]); (try omega))), ?_⟩
    intro a5 w5 hr5 _
    exact post_retn (end1 hr5 rfl rfl ⟨rfl, hr5.keeps.toBelow⟩).1
  refine seg cfg3_ok mixed PanicFree.body 1000 [] [(19, false)] h4 (by first | trivial | exact HpRep.nil | assumption) (by kernel_rfl) fun s_ hs_ => ?_
  simp (maxSteps := 10000000) [SX.vc, SX.stop, SX.contS, SX.contB, SX.contW, SX.contR, SX.contD, SX.sxStep, SX.stepPure, SX.stepNew, SX.stepStore, SX.stepKeep, SX.guardIx, SX.evOp, SX.opd, SX.opds, SX.optOpd, SX.look, SX.putS, SX.gobs, SX.AllP, SX.leave, SX.lookC, SX.lookB, SX.lookT, SX.lookN, SX.findK, SX.evBuiltin, SX.ints, SX.foldI, SX.evBin, SX.evInt, SX.evStr, SX.evEq, SX.arith, SX.evLoad, SX.shapeUp, SX.evFieldAddr, SX.evField, SX.evIndexAddr, SX.evIndex, SX.evFill, SX.evBuild, SX.szs, SX.cellsV, SX.evNew, SX.evStore, SX.spliceL, SX.SV.cells, SX.evConv, SX.evSlice, SX.bnd, SX.evNil, SX.evUn, SX.evPick, SX.pickOpd, SX.popTo, SX.cnd, SX.env0, SX.TD.isAgg, SX.TD.isIface, SX.tails, SX.NotAgg, SX.evLookup, SX.evConvH, SX.evPtrEq, SX.isCells, SX.thaw, SX.frz, SX.fixB, SX.rootIx, SX.Froz, SX.frzStep, SX.fork, Go.Value.cells, Go.undef, cfg3, hF, tabC]
  refine ⟨by (unfold SX.Ob; first | trivial | omega | ((try simp only [SX.inK]); (try simp [SX.den, SX.IsU8, SX.AllP, *]); (try omega))), ?_⟩
  intro a5 w5 hr5 _
  refine post_call 11 [.ag [.v (.int .i64 t.last), .v (.int .i64 t.now), .v (.slice ad t.L.length cp)]] hr5 (by first | exact wanted_none rfl | exact wanted_zero (hr5.env.same rfl rfl rfl rfl) rfl (by simp) | exact wanted_zero (hr5.env.same rfl rfl rfl rfl) rfl (by simp [*])) rfl (callable 11 Try.func11) (rcheck_ok w5 _ t (hL.below hr5.keeps.toBelow) hn) ?_
  rintro e6 w6 ⟨rfl, hb6⟩
  refine ⟨_, rfl, ?_⟩
  have h6 := hr5.ret hb6 21 (.v (.int .i64 (chkT t))) rfl _ (hr5.all.below hb6) (by simp) rfl
  by_cases hC : ChkT t
  rotate_left
  · have hc : chkT t = 1 := if_neg hC
    refine seg cfg3_ok mixed PanicFree.body 1000 [true] [(19, false)] h6 (by first | trivial | exact HpRep.nil | assumption) (by kernel_rfl) fun s_ hs_ => ?_
    simp (maxSteps := 10000000) [SX.vc, SX.stop, SX.contS, SX.contB, SX.contW, SX.contR, SX.contD, SX.sxStep, SX.stepPure, SX.stepNew, SX.stepStore, SX.stepKeep, SX.guardIx, SX.evOp, SX.opd, SX.opds, SX.optOpd, SX.look, SX.putS, SX.gobs, SX.AllP, SX.leave, SX.lookC, SX.lookB, SX.lookT, SX.lookN, SX.findK, SX.evBuiltin, SX.ints, SX.foldI, SX.evBin, SX.evInt, SX.evStr, SX.evEq, SX.arith, SX.evLoad, SX.shapeUp, SX.evFieldAddr, SX.evField, SX.evIndexAddr, SX.evIndex, SX.evFill, SX.evBuild, SX.szs, SX.cellsV, SX.evNew, SX.evStore, SX.spliceL, SX.SV.cells, SX.evConv, SX.evSlice, SX.bnd, SX.evNil, SX.evUn, SX.evPick, SX.pickOpd, SX.popTo, SX.cnd, SX.env0, SX.TD.isAgg, SX.TD.isIface, SX.tails, SX.NotAgg, SX.evLookup, SX.evConvH, SX.evPtrEq, SX.isCells, SX.thaw, SX.frz, SX.fixB, SX.rootIx, SX.Froz, SX.frzStep, SX.fork, Go.Value.cells, Go.undef, cfg3, hc]
    refine ⟨by (unfold SX.Ob; first | trivial | omega | ((try simp only [SX.inK]); (try simp [SX.den, SX.IsU8, SX.AllP, *]); (try omega))), ?_⟩
    intro a7 w7 hr7 _
    exact post_retn (end1 hr7 rfl rfl ⟨rfl, hr7.keeps.toBelow⟩).1
  have hc : chkT t = 0 := if_pos hC
  obtain ⟨hF1, _, hF2, hF3⟩ := hF
  refine seg cfg3_ok mixed PanicFree.body 1000 [false] [(19, false)] h6 (by first | trivial | exact HpRep.nil | assumption) (by kernel_rfl) fun s_ hs_ => ?_
  simp (maxSteps := 10000000) [SX.vc, SX.stop, SX.contS, SX.contB, SX.contW, SX.contR, SX.contD, SX.sxStep, SX.stepPure, SX.stepNew, SX.stepStore, SX.stepKeep, SX.guardIx, SX.evOp, SX.opd, SX.opds, SX.optOpd, SX.look, SX.putS, SX.gobs, SX.AllP, SX.leave, SX.lookC, SX.lookB, SX.lookT, SX.lookN, SX.findK, SX.evBuiltin, SX.ints, SX.foldI, SX.evBin, SX.evInt, SX.evStr, SX.evEq, SX.arith, SX.evLoad, SX.shapeUp, SX.evFieldAddr, SX.evField, SX.evIndexAddr, SX.evIndex, SX.evFill, SX.evBuild, SX.szs, SX.cellsV, SX.evNew, SX.evStore, SX.spliceL, SX.SV.cells, SX.evConv, SX.evSlice, SX.bnd, SX.evNil, SX.evUn, SX.evPick, SX.pickOpd, SX.popTo, SX.cnd, SX.env0, SX.TD.isAgg, SX.TD.isIface, SX.tails, SX.NotAgg, SX.evLookup, SX.evConvH, SX.evPtrEq, SX.isCells, SX.thaw, SX.frz, SX.fixB, SX.rootIx, SX.Froz, SX.frzStep, SX.fork, Go.Value.cells, Go.undef, cfg3, hc, tabC]
  refine ⟨by (unfold SX.Ob; first | trivial | omega | ((try simp only [SX.inK]); (try simp [SX.den, SX.IsU8, SX.AllP, *]); (try omega))), ?_⟩
  intro a7 w7 hr7 _
  refine post_call 12 [.ag [.v (.int .i64 t.last), .v (.int .i64 t.now), .v (.slice ad t.L.length cp)], .v (.slice none 0 0)] hr7 (by first | exact wanted_none rfl | exact wanted_zero (hr7.env.same rfl rfl rfl rfl) rfl (by simp) | exact wanted_zero (hr7.env.same rfl rfl rfl rfl) rfl (by simp [*])) rfl (callable 12 Try.func12) (Next_ok w7 _ _ t [] (hL.below hr7.keeps.toBelow) (by omega) (OwS.nil (d := (0 : Int)) (P := fun _ => True)).rd (by simp)) ?_
  rintro e8 w8 ⟨n, rfl, hN, hb8⟩
  refine ⟨_, rfl, ?_⟩
  have h8 := hr7.ret hb8 26 (.v (.int .i64 n)) rfl _ (hr7.all.below hb8) (by simp) rfl
  rcases hq : t.L.length with _ | q
  · have hL0 : t.L = [] := List.length_eq_zero_iff.1 hq
    have hn0 : n = 0 := hN.1 (by rw [next_all hC, hL0])
    have hq0 : (t.L.length : Int) = 0 := by omega
    refine seg cfg3_ok mixed PanicFree.body 1000 [true] [(19, false), (32, true)] h8 (by first | trivial | exact HpRep.nil | assumption) (by kernel_rfl) fun s_ hs_ => ?_
    simp (maxSteps := 10000000) [SX.vc, SX.stop, SX.contS, SX.contB, SX.contW, SX.contR, SX.contD, SX.sxStep, SX.stepPure, SX.stepNew, SX.stepStore, SX.stepKeep, SX.guardIx, SX.evOp, SX.opd, SX.opds, SX.optOpd, SX.look, SX.putS, SX.gobs, SX.AllP, SX.leave, SX.lookC, SX.lookB, SX.lookT, SX.lookN, SX.findK, SX.evBuiltin, SX.ints, SX.foldI, SX.evBin, SX.evInt, SX.evStr, SX.evEq, SX.arith, SX.evLoad, SX.shapeUp, SX.evFieldAddr, SX.evField, SX.evIndexAddr, SX.evIndex, SX.evFill, SX.evBuild, SX.szs, SX.cellsV, SX.evNew, SX.evStore, SX.spliceL, SX.SV.cells, SX.evConv, SX.evSlice, SX.bnd, SX.evNil, SX.evUn, SX.evPick, SX.pickOpd, SX.popTo, SX.cnd, SX.env0, SX.TD.isAgg, SX.TD.isIface, SX.tails, SX.NotAgg, SX.evLookup, SX.evConvH, SX.evPtrEq, SX.isCells, SX.thaw, SX.frz, SX.fixB, SX.rootIx, SX.Froz, SX.frzStep, SX.fork, Go.Value.cells, Go.undef, cfg3, hq, hq0, hn0, tabC]
    refine ⟨by (unfold SX.Ob; first | trivial | omega | ((try simp only [SX.inK]); (try simp [SX.den, SX.IsU8, SX.AllP, *]); (try omega))), ?_⟩
    intro a9 w9 hr9 _
    exact post_retn (end1 hr9 rfl rfl ⟨rfl, hr9.keeps.toBelow⟩).1
  have hne : t.L ≠ [] := fun h => by rw [h] at hq; simp at hq
  obtain ⟨l1, l2, l3, l4, l5, l6, l7, l8⟩ := next_law hC hN hne
  have hnu : inK n := by
    obtain ⟨x, hx, hxn, _⟩ := hN.2 (by rw [next_all hC]; exact hne)
    rw [next_all hC] at hx
    exact hxn ▸ hu x hx
  obtain ⟨hnu1, hnu2⟩ := hnu
  have hnow0 : 0 ≤ t.now := hC.2.2
  have hlq : ¬ (t.L.length : Int) = 0 := by omega
  have hle : ¬ n ≤ t.now := by omega
  refine seg cfg3_ok mixed PanicFree.body 1000 [false, false] [(19, false)] h8 (by first | trivial | exact HpRep.nil | assumption) (by kernel_rfl) fun s_ hs_ => ?_
  simp (maxSteps := 10000000) [SX.vc, SX.stop, SX.contS, SX.contB, SX.contW, SX.contR, SX.contD, SX.sxStep, SX.stepPure, SX.stepNew, SX.stepStore, SX.stepKeep, SX.guardIx, SX.evOp, SX.opd, SX.opds, SX.optOpd, SX.look, SX.putS, SX.gobs, SX.AllP, SX.leave, SX.lookC, SX.lookB, SX.lookT, SX.lookN, SX.findK, SX.evBuiltin, SX.ints, SX.foldI, SX.evBin, SX.evInt, SX.evStr, SX.evEq, SX.arith, SX.evLoad, SX.shapeUp, SX.evFieldAddr, SX.evField, SX.evIndexAddr, SX.evIndex, SX.evFill, SX.evBuild, SX.szs, SX.cellsV, SX.evNew, SX.evStore, SX.spliceL, SX.SV.cells, SX.evConv, SX.evSlice, SX.bnd, SX.evNil, SX.evUn, SX.evPick, SX.pickOpd, SX.popTo, SX.cnd, SX.env0, SX.TD.isAgg, SX.TD.isIface, SX.tails, SX.NotAgg, SX.evLookup, SX.evConvH, SX.evPtrEq, SX.isCells, SX.thaw, SX.frz, SX.fixB, SX.rootIx, SX.Froz, SX.frzStep, SX.fork, Go.Value.cells, Go.undef, cfg3, hne, hle, tabC]
  refine ⟨by (unfold SX.Ob; first | trivial | omega | ((try simp only [SX.inK]); (try simp [SX.den, SX.IsU8, SX.AllP, *]); (try omega))), ?_⟩
  intro a9 w9 hr9 _
  obtain ⟨U, hU⟩ : ∃ U, tickT t (n - 1) = U := ⟨_, rfl⟩
  obtain ⟨V, hV⟩ : ∃ V, tickT t n = V := ⟨_, rfl⟩
  obtain ⟨X, hX⟩ : ∃ X, tickO t n = X := ⟨_, rfl⟩
  have eE1 : tickE t (n - 1) = 0 := if_pos l2
  have eE2 : tickE t n = 0 := if_pos l3
  rw [hU] at l5
  rw [hX] at l6 l7 l8
  rw [hV] at l7
  have tk1 := (Tick_ok w9 _ t (n - 1) (hL.below hr9.keeps.toBelow) (by omega)).mono (R' := fun e w' => ∃ v1 v2, e = .returned (den (.tu [.ag (tabC U v1), .v v2, .v (.int .i64 0)])) ∧ RdL (fun x => w9.heap.size ≤ x) w' v1 U.L ∧ RdL (fun x => w9.heap.size ≤ x) w' v2 [] ∧ Below w9.heap.size w9 w') fun e w' ⟨v1, v2, h1, h2, h3, h4⟩ => by
    rw [hU, eE1] at h1
    rw [hU] at h2
    rw [l4] at h3
    exact ⟨v1, v2, h1, h2, h3, h4⟩
  refine post_call 13 [.ag [.v (.int .i64 t.last), .v (.int .i64 t.now), .v (.slice ad t.L.length cp)], .v (.int .i64 (n - 1))] hr9 (by first | exact wanted_none rfl | exact wanted_zero (hr9.env.same rfl rfl rfl rfl) rfl (by simp) | exact wanted_zero (hr9.env.same rfl rfl rfl rfl) rfl (by simp [*])) rfl (callable 13 Try.func13) (tk1) ?_
  rintro e10 w10 ⟨v10, v10', rfl, hU10, hO10, hb10⟩
  refine ⟨_, rfl, ?_⟩
  have h10 := hr9.ret hb10 44 (.tu [.ag (tabC U v10), .v v10', .v (.int .i64 0)]) rfl _ (hr9.all.below hb10) (by simp) rfl
  obtain ⟨adU, cpU, rfl⟩ := hU10.slice
  obtain ⟨adO, cpO, rfl⟩ := hO10.slice
  refine seg cfg3_ok mixed PanicFree.body 1000 [] [(19, false)] h10 (by first | trivial | exact HpRep.nil | assumption) (by kernel_rfl) fun s_ hs_ => ?_
  simp (maxSteps := 10000000) [SX.vc, SX.stop, SX.contS, SX.contB, SX.contW, SX.contR, SX.contD, SX.sxStep, SX.stepPure, SX.stepNew, SX.stepStore, SX.stepKeep, SX.guardIx, SX.evOp, SX.opd, SX.opds, SX.optOpd, SX.look, SX.putS, SX.gobs, SX.AllP, SX.leave, SX.lookC, SX.lookB, SX.lookT, SX.lookN, SX.findK, SX.evBuiltin, SX.ints, SX.foldI, SX.evBin, SX.evInt, SX.evStr, SX.evEq, SX.arith, SX.evLoad, SX.shapeUp, SX.evFieldAddr, SX.evField, SX.evIndexAddr, SX.evIndex, SX.evFill, SX.evBuild, SX.szs, SX.cellsV, SX.evNew, SX.evStore, SX.spliceL, SX.SV.cells, SX.evConv, SX.evSlice, SX.bnd, SX.evNil, SX.evUn, SX.evPick, SX.pickOpd, SX.popTo, SX.cnd, SX.env0, SX.TD.isAgg, SX.TD.isIface, SX.tails, SX.NotAgg, SX.evLookup, SX.evConvH, SX.evPtrEq, SX.isCells, SX.thaw, SX.frz, SX.fixB, SX.rootIx, SX.Froz, SX.frzStep, SX.fork, Go.Value.cells, Go.undef, cfg3, tabC]
  refine ⟨by (unfold SX.Ob; first | trivial | omega | ((try simp only [SX.inK]); (try simp [SX.den, SX.IsU8, SX.AllP, *]); (try omega))), ?_⟩
  intro a11 w11 hr11 _
  have tk2 := (Tick_ok w11 _ t n (hL.below hr11.keeps.toBelow) (by omega)).mono (R' := fun e w' => ∃ v1 v2, e = .returned (den (.tu [.ag (tabC V v1), .v v2, .v (.int .i64 0)])) ∧ RdL (fun x => w11.heap.size ≤ x) w' v1 V.L ∧ RdL (fun x => w11.heap.size ≤ x) w' v2 X ∧ Below w11.heap.size w11 w') fun e w' ⟨v1, v2, h1, h2, h3, h4⟩ => by
    rw [hV, eE2] at h1
    rw [hV] at h2
    rw [hX] at h3
    exact ⟨v1, v2, h1, h2, h3, h4⟩
  refine post_call 13 [.ag [.v (.int .i64 t.last), .v (.int .i64 t.now), .v (.slice ad t.L.length cp)], .v (.int .i64 n)] hr11 (by first | exact wanted_none rfl | exact wanted_zero (hr11.env.same rfl rfl rfl rfl) rfl (by simp) | exact wanted_zero (hr11.env.same rfl rfl rfl rfl) rfl (by simp [*])) rfl (callable 13 Try.func13) (tk2) ?_
  rintro e12 w12 ⟨v12, v12', rfl, hV12, hO12, hb12⟩
  refine ⟨_, rfl, ?_⟩
  have h12 := hr11.ret hb12 51 (.tu [.ag (tabC V v12), .v v12', .v (.int .i64 0)]) rfl _ (hr11.all.below hb12) (by simp) rfl
  obtain ⟨adV, cpV, rfl⟩ := hV12.slice
  obtain ⟨adX, cpX, rfl⟩ := hO12.slice
  have l6' : ¬ (X.length : Int) = 0 := by omega
  have hXne : X ≠ [] := fun h => by rw [h] at l6; simp at l6
  have l7' : (V.L.length : Int) + X.length = t.L.length := by omega
  have l5' : (U.L.length : Int) = t.L.length := by omega
  have kT : sT < w11.heap.size := SO.rep_lt hr11.all.1.1
  have h12i := h12.see _ (HpAll.imm h12.all)
  simp only [List.map_cons, List.map_nil] at h12i
  refine seg cfg3_ok mixed PanicFree.body 1000 [false] [(19, false), (57, false), (61, false), (66, false), (75, false), (80, false)] h12i.rebase (by first | trivial | exact HpRep.nil | assumption) (by kernel_rfl) fun s_ hs_ => ?_
  simp (maxSteps := 10000000) [SX.vc, SX.stop, SX.contS, SX.contB, SX.contW, SX.contR, SX.contD, SX.sxStep, SX.stepPure, SX.stepNew, SX.stepStore, SX.stepKeep, SX.guardIx, SX.evOp, SX.opd, SX.opds, SX.optOpd, SX.look, SX.putS, SX.gobs, SX.AllP, SX.leave, SX.lookC, SX.lookB, SX.lookT, SX.lookN, SX.findK, SX.evBuiltin, SX.ints, SX.foldI, SX.evBin, SX.evInt, SX.evStr, SX.evEq, SX.arith, SX.evLoad, SX.shapeUp, SX.evFieldAddr, SX.evField, SX.evIndexAddr, SX.evIndex, SX.evFill, SX.evBuild, SX.szs, SX.cellsV, SX.evNew, SX.evStore, SX.spliceL, SX.SV.cells, SX.evConv, SX.evSlice, SX.bnd, SX.evNil, SX.evUn, SX.evPick, SX.pickOpd, SX.popTo, SX.cnd, SX.env0, SX.TD.isAgg, SX.TD.isIface, SX.tails, SX.NotAgg, SX.evLookup, SX.evConvH, SX.evPtrEq, SX.isCells, SX.thaw, SX.frz, SX.fixB, SX.rootIx, SX.Froz, SX.frzStep, SX.fork, Go.Value.cells, Go.undef, cfg3, tabC, l5', l6', l7']
  refine ⟨by (unfold SX.Ob; first | trivial | omega | ((try simp only [SX.inK]); (try simp [SX.den, SX.IsU8, SX.AllP, *]); (try omega))), ?_⟩
  intro a13 w13 hr13' _
  have hr13a := h12i.unbase hr13'
  have hr13 := hr13a.see _ (HpAll.imm hr13a.all)
  simp only [List.map_cons, List.map_nil] at hr13
  have hA13 := hr13.all
  have hX13 := hO12.keep hr13'.keeps (by simp [frameAt, mutB])
  have h14 := hr13.see [(sT, false, .cells [.v (.int .i64 t.last), .v (.int .i64 t.now), .v (.slice ad t.L.length cp)] 24)] ⟨⟨hA13.1.1, by simp, by simp⟩, trivial⟩
  have h15 := h14.rebase
  refine post_loop (ThenLoop _ [(sT, false, .cells [.v (.int .i64 t.last), .v (.int .i64 t.now), .v (.slice ad t.L.length cp)] 24)] (.ptr 0 sT 0) X (.slice adX X.length cpX) n) X.length ⟨0, rfl, by omega, h15.re (by simp [envTo, SX.look, den]) h15.all rfl rfl⟩ ?_
  rintro m a16 w16 ⟨k, rfl, hk, hr16⟩
  by_cases hlt : k < X.length
  · have hX16 := hX13.keep hr16.keeps (by simp [frameAt, mutB])
    obtain ⟨b, o0, cap, u, fz, hP, hv, hrep⟩ := hX16.opn hlt
    cases hv
    obtain ⟨x, hx⟩ : ∃ x, nth lse0 X k = x := ⟨_, rfl⟩
    have hxu : x.u = n := l8 x (hx ▸ nth_mem hlt)
    have hA16 := hr16.all
    have h17 := (hr16.top 92 (.sl 1 b o0 0 X.length cpX 4) rfl (by simp [den])).see [(sT, false, .cells [.v (.int .i64 t.last), .v (.int .i64 t.now), .v (.slice ad t.L.length cp)] 24), (b, false, .arr o0 X.length (fun j => lseC (nth lse0 X j)) 4 u fz)] ⟨⟨hA16.1.1, by simp, by simp; omega⟩, HpAll.one hrep⟩
    refine seg cfg3_ok mixed PanicFree.body 1000 [true, false] [] h17 (by first | trivial | exact HpRep.nil | assumption) (by kernel_rfl) fun s_ hs_ => ?_
    simp (maxSteps := 10000000) [SX.vc, SX.stop, SX.contS, SX.contB, SX.contW, SX.contR, SX.contD, SX.sxStep, SX.stepPure, SX.stepNew, SX.stepStore, SX.stepKeep, SX.guardIx, SX.evOp, SX.opd, SX.opds, SX.optOpd, SX.look, SX.putS, SX.gobs, SX.AllP, SX.leave, SX.lookC, SX.lookB, SX.lookT, SX.lookN, SX.findK, SX.evBuiltin, SX.ints, SX.foldI, SX.evBin, SX.evInt, SX.evStr, SX.evEq, SX.arith, SX.evLoad, SX.shapeUp, SX.evFieldAddr, SX.evField, SX.evIndexAddr, SX.evIndex, SX.evFill, SX.evBuild, SX.szs, SX.cellsV, SX.evNew, SX.evStore, SX.spliceL, SX.SV.cells, SX.evConv, SX.evSlice, SX.bnd, SX.evNil, SX.evUn, SX.evPick, SX.pickOpd, SX.popTo, SX.cnd, SX.env0, SX.TD.isAgg, SX.TD.isIface, SX.tails, SX.NotAgg, SX.evLookup, SX.evConvH, SX.evPtrEq, SX.isCells, SX.thaw, SX.frz, SX.fixB, SX.rootIx, SX.Froz, SX.frzStep, SX.fork, Go.Value.cells, Go.undef, cfg3, lseC, hx, hxu]
    refine ⟨by (unfold SX.Ob; first | trivial | omega | ((try simp only [SX.inK]); (try simp [SX.den, SX.IsU8, SX.AllP, *]); (try omega))), ?_⟩
    intro a18 w18 hr18 _
    exact post_rnd (X.length - (k + 1)) (by omega) ⟨k + 1, rfl, by omega, hr18.re (by simp [envTo, SX.look, den]) (hr18.all.take 1) rfl rfl⟩
  · obtain rfl : k = X.length := by omega
    have hc0 := cntH_zero hC
    refine seg cfg3_ok mixed PanicFree.body 1000 [false] [] hr16 (by first | trivial | exact HpRep.nil | assumption) (by kernel_rfl) fun s_ hs_ => ?_
    simp (maxSteps := 10000000) [SX.vc, SX.stop, SX.contS, SX.contB, SX.contW, SX.contR, SX.contD, SX.sxStep, SX.stepPure, SX.stepNew, SX.stepStore, SX.stepKeep, SX.guardIx, SX.evOp, SX.opd, SX.opds, SX.optOpd, SX.look, SX.putS, SX.gobs, SX.AllP, SX.leave, SX.lookC, SX.lookB, SX.lookT, SX.lookN, SX.findK, SX.evBuiltin, SX.ints, SX.foldI, SX.evBin, SX.evInt, SX.evStr, SX.evEq, SX.arith, SX.evLoad, SX.shapeUp, SX.evFieldAddr, SX.evField, SX.evIndexAddr, SX.evIndex, SX.evFill, SX.evBuild, SX.szs, SX.cellsV, SX.evNew, SX.evStore, SX.spliceL, SX.SV.cells, SX.evConv, SX.evSlice, SX.bnd, SX.evNil, SX.evUn, SX.evPick, SX.pickOpd, SX.popTo, SX.cnd, SX.env0, SX.TD.isAgg, SX.TD.isIface, SX.tails, SX.NotAgg, SX.evLookup, SX.evConvH, SX.evPtrEq, SX.isCells, SX.thaw, SX.frz, SX.fixB, SX.rootIx, SX.Froz, SX.frzStep, SX.fork, Go.Value.cells, Go.undef, cfg3]
    refine ⟨by (unfold SX.Ob; first | trivial | omega | ((try simp only [SX.inK]); (try simp [SX.den, SX.IsU8, SX.AllP, *]); (try omega))), ?_⟩
    intro a18 w18 hr18 _
    refine post_loop (ManyLoop _ [(sT, false, .cells [.v (.int .i64 t.last), .v (.int .i64 t.now), .v (.slice ad t.L.length cp)] 24)] (.ptr 0 sT 0) t.L) 8 ⟨0, rfl, by omega, hr18.re (by simp [envTo, SX.look, den, hc0]) hr18.all rfl rfl⟩ ?_
    rintro m a20 w20 ⟨h, rfl, hh, hr20⟩
    have hL20 := hL.below (h14.unbase hr20).keeps.toBelow
    by_cases hlt : h < 8
    · have cs := cntH_succ hC h
      have cl := cntH_le t.L (h + 1)
      refine seg cfg3_ok mixed PanicFree.body 1000 [true] [] hr20.rebase (by first | trivial | exact HpRep.nil | assumption) (by kernel_rfl) fun s_ hs_ => ?_
      simp (maxSteps := 10000000) [SX.vc, SX.stop, SX.contS, SX.contB, SX.contW, SX.contR, SX.contD, SX.sxStep, SX.stepPure, SX.stepNew, SX.stepStore, SX.stepKeep, SX.guardIx, SX.evOp, SX.opd, SX.opds, SX.optOpd, SX.look, SX.putS, SX.gobs, SX.AllP, SX.leave, SX.lookC, SX.lookB, SX.lookT, SX.lookN, SX.findK, SX.evBuiltin, SX.ints, SX.foldI, SX.evBin, SX.evInt, SX.evStr, SX.evEq, SX.arith, SX.evLoad, SX.shapeUp, SX.evFieldAddr, SX.evField, SX.evIndexAddr, SX.evIndex, SX.evFill, SX.evBuild, SX.szs, SX.cellsV, SX.evNew, SX.evStore, SX.spliceL, SX.SV.cells, SX.evConv, SX.evSlice, SX.bnd, SX.evNil, SX.evUn, SX.evPick, SX.pickOpd, SX.popTo, SX.cnd, SX.env0, SX.TD.isAgg, SX.TD.isIface, SX.tails, SX.NotAgg, SX.evLookup, SX.evConvH, SX.evPtrEq, SX.isCells, SX.thaw, SX.frz, SX.fixB, SX.rootIx, SX.Froz, SX.frzStep, SX.fork, Go.Value.cells, Go.undef, cfg3, hlt]
      refine ⟨by (unfold SX.Ob; first | trivial | omega | ((try simp only [SX.inK]); (try simp [SX.den, SX.IsU8, SX.AllP, *]); (try omega))), ?_⟩
      intro a21 w21 hr21' _
      have hr21 := hr20.unbase hr21'
      refine post_call 14 [.ag [.v (.int .i64 t.last), .v (.int .i64 t.now), .v (.slice ad t.L.length cp)], .v (.int .i64 h)] hr21 (by first | exact wanted_none rfl | exact wanted_zero (hr21.env.same rfl rfl rfl rfl) rfl (by simp) | exact wanted_zero (hr21.env.same rfl rfl rfl rfl) rfl (by simp [*])) rfl (callable 14 Try.func14) (Of_ok w21 _ t h (hL20.keep hr21'.keeps (by simp [frameAt, mutB])) (by omega)) ?_
      rintro e22 w22 ⟨v22, rfl, hO22, hb22⟩
      refine ⟨_, rfl, ?_⟩
      have h22 := hr21.ret hb22 109 (.v v22) rfl _ (hr21.all.below hb22) (by simp) rfl
      obtain ⟨ad22, cp22, rfl⟩ := hO22.slice
      refine seg cfg3_ok mixed PanicFree.body 1000 [] [] h22 (by first | trivial | exact HpRep.nil | assumption) (by kernel_rfl) fun s_ hs_ => ?_
      simp (maxSteps := 10000000) [SX.vc, SX.stop, SX.contS, SX.contB, SX.contW, SX.contR, SX.contD, SX.sxStep, SX.stepPure, SX.stepNew, SX.stepStore, SX.stepKeep, SX.guardIx, SX.evOp, SX.opd, SX.opds, SX.optOpd, SX.look, SX.putS, SX.gobs, SX.AllP, SX.leave, SX.lookC, SX.lookB, SX.lookT, SX.lookN, SX.findK, SX.evBuiltin, SX.ints, SX.foldI, SX.evBin, SX.evInt, SX.evStr, SX.evEq, SX.arith, SX.evLoad, SX.shapeUp, SX.evFieldAddr, SX.evField, SX.evIndexAddr, SX.evIndex, SX.evFill, SX.evBuild, SX.szs, SX.cellsV, SX.evNew, SX.evStore, SX.spliceL, SX.SV.cells, SX.evConv, SX.evSlice, SX.bnd, SX.evNil, SX.evUn, SX.evPick, SX.pickOpd, SX.popTo, SX.cnd, SX.env0, SX.TD.isAgg, SX.TD.isIface, SX.tails, SX.NotAgg, SX.evLookup, SX.evConvH, SX.evPtrEq, SX.isCells, SX.thaw, SX.frz, SX.fixB, SX.rootIx, SX.Froz, SX.frzStep, SX.fork, Go.Value.cells, Go.undef, cfg3]
      refine ⟨by (unfold SX.Ob; first | trivial | omega | ((try simp only [SX.inK]); (try simp [SX.den, SX.IsU8, SX.AllP, *]); (try omega))), ?_⟩
      intro a23 w23 hr23 _
      exact post_rnd (8 - (h + 1)) (by omega) ⟨h + 1, rfl, by omega, hr23.re (by simp [envTo, SX.look, den, cs]) (hr23.all.take 1) rfl rfl⟩
    · obtain rfl : h = 8 := by omega
      have ca := cntH_all hC
      have ca' : ((cntH t.L 8 : Nat) : Int) = t.L.length := by omega
      refine seg cfg3_ok mixed PanicFree.body 1000 [false] [(114, true)] hr20.rebase (by first | trivial | exact HpRep.nil | assumption) (by kernel_rfl) fun s_ hs_ => ?_
      simp (maxSteps := 10000000) [SX.vc, SX.stop, SX.contS, SX.contB, SX.contW, SX.contR, SX.contD, SX.sxStep, SX.stepPure, SX.stepNew, SX.stepStore, SX.stepKeep, SX.guardIx, SX.evOp, SX.opd, SX.opds, SX.optOpd, SX.look, SX.putS, SX.gobs, SX.AllP, SX.leave, SX.lookC, SX.lookB, SX.lookT, SX.lookN, SX.findK, SX.evBuiltin, SX.ints, SX.foldI, SX.evBin, SX.evInt, SX.evStr, SX.evEq, SX.arith, SX.evLoad, SX.shapeUp, SX.evFieldAddr, SX.evField, SX.evIndexAddr, SX.evIndex, SX.evFill, SX.evBuild, SX.szs, SX.cellsV, SX.evNew, SX.evStore, SX.spliceL, SX.SV.cells, SX.evConv, SX.evSlice, SX.bnd, SX.evNil, SX.evUn, SX.evPick, SX.pickOpd, SX.popTo, SX.cnd, SX.env0, SX.TD.isAgg, SX.TD.isIface, SX.tails, SX.NotAgg, SX.evLookup, SX.evConvH, SX.evPtrEq, SX.isCells, SX.thaw, SX.frz, SX.fixB, SX.rootIx, SX.Froz, SX.frzStep, SX.fork, Go.Value.cells, Go.undef, cfg3, ca']
      refine ⟨by (unfold SX.Ob; first | trivial | omega | ((try simp only [SX.inK]); (try simp [SX.den, SX.IsU8, SX.AllP, *]); (try omega))), ?_⟩
      intro a21 w21 hr21' _
      have hr21 := h14.unbase (hr20.unbase hr21')
      exact post_retn (end1 hr21 rfl rfl ⟨rfl, hr21.keeps.toBelow⟩).1
end Go.Proofs
