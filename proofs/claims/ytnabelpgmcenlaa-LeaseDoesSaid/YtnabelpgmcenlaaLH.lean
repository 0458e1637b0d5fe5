/- Leases: good; Grant. -/
import Derived.Test.YtnabelpgmcenlaaLG
import Derived.Test.YtnabelpgmcenlaaLN
import Derived.Test.YtnabelpgmcenlaaLB
namespace Go.Proofs
set_option linter.unusedVariables false
set_option linter.unusedSimpArgs false
open Go Go.SX Go.RowKit

theorem chk_srt {t : Tab} (h : ChkT t) : Srt t.L := fun i j hij hj => ((((chkL_iff _ _ _ _ _).1 h.1) j hj).2.2 i hij).1

def HasK (L : List Lse) (y : Int) : Prop := ∃ x ∈ L, x.k = y
instance (L : List Lse) (y : Int) : Decidable (HasK L y) := by unfold HasK; infer_instance
theorem place_has {L : List Lse} {y : Int} {i : Nat} (h : PlaceP L y i) (hs : Srt L) : isAt L y i = decide (HasK L y) := by
  obtain ⟨h1, h2⟩ := h
  obtain ⟨h3, h4⟩ := h2 hs
  rw [Bool.eq_iff_iff]
  simp only [isAt, decide_eq_true_eq]
  constructor
  · rintro ⟨a, b⟩
    exact ⟨_, nth_mem a, b⟩
  · rintro ⟨x, hx, hk⟩
    obtain ⟨j, hj, rfl⟩ := List.mem_iff_getElem.1 hx
    rw [← nth_lt (d := lse0) hj] at hk
    rcases Nat.lt_or_ge j i with hji | hji
    · have := h3 j hji
      omega
    · rcases Nat.lt_or_ge i j with hij | hij
      · have a1 := hs i j hij hj
        have a2 := h4 i (Nat.le_refl _) (by omega)
        omega
      · obtain rfl : i = j := by omega
        exact ⟨hj, hk⟩

/-- Put in by its key. -/
def insK (x : Lse) (L : List Lse) : List Lse := (L.filter fun y => decide (y.k < x.k)) ++ x :: (L.filter fun y => decide (x.k < y.k))
theorem place_ins {L : List Lse} {x : Lse} {i : Nat} (h : PlaceP L x.k i) (hs : Srt L) (hn : ¬ HasK L x.k) : L.take i ++ x :: L.drop i = insK x L := by
  obtain ⟨h1, h2⟩ := h
  obtain ⟨h3, h4⟩ := h2 hs
  have e1 : L.filter (fun y => decide (y.k < x.k)) = L.take i := by
    conv => lhs; rw [← List.take_append_drop i L]
    rw [List.filter_append]
    rw [List.filter_eq_self.2, List.filter_eq_nil_iff.2, List.append_nil]
    · intro y hy
      obtain ⟨j, hj, rfl⟩ := List.mem_iff_getElem.1 hy
      simp only [List.length_drop] at hj
      have := h4 (i + j) (by omega) (by omega)
      rw [nth_lt (by omega)] at this
      simp only [List.getElem_drop, decide_eq_true_eq]
      omega
    · intro y hy
      obtain ⟨j, hj, rfl⟩ := List.mem_iff_getElem.1 hy
      simp only [List.length_take] at hj
      have := h3 j (by omega)
      rw [nth_lt (by omega)] at this
      simp only [List.getElem_take, decide_eq_true_eq]
      exact this
  have e2 : L.filter (fun y => decide (x.k < y.k)) = L.drop i := by
    conv => lhs; rw [← List.take_append_drop i L]
    rw [List.filter_append]
    rw [List.filter_eq_nil_iff.2, List.filter_eq_self.2, List.nil_append]
    · intro y hy
      obtain ⟨j, hj, rfl⟩ := List.mem_iff_getElem.1 hy
      simp only [List.length_drop] at hj
      have h5 := h4 (i + j) (by omega) (by omega)
      rw [nth_lt (by omega)] at h5
      simp only [List.getElem_drop, decide_eq_true_eq]
      have h6 : L[i + j].k ≠ x.k := fun h => hn ⟨_, List.getElem_mem _, h⟩
      omega
    · intro y hy
      obtain ⟨j, hj, rfl⟩ := List.mem_iff_getElem.1 hy
      simp only [List.length_take] at hj
      have := h3 j (by omega)
      rw [nth_lt (by omega)] at this
      simp only [List.getElem_take, decide_eq_true_eq]
      omega
  rw [insK, e1, e2]


theorem HpRep.to {H : Hp} {w w' : World} {M : List Nat} (h : HpRep H w) (hk : KeepsTo w M w') (hM : ∀ e ∈ H, e.1 ∉ M) : HpRep H w' := fun i b m o hi => hk.same (h i b m o hi) (hM _ (List.mem_of_getElem? hi))

def GoodT (t : Tab) (ttl : Int) : Prop := 1 ≤ ttl ∧ ttl ≤ 1099511627776 ∧ ChkT t
instance (t : Tab) (ttl : Int) : Decidable (GoodT t ttl) := by unfold GoodT; infer_instance

set_option maxRecDepth 100000 in
set_option maxHeartbeats 8000000 in
/-- good. -/
theorem good_ok {P : Nat → Prop} (w : World) (v : Value) (t : Tab) (ttl : Int) (hL : RdL P w v t.L) (hn : t.L.length ≤ 1000000) : Calls Try.prog 39 (denL [.ag (tabC t v), .v (.int .i64 ttl)]).toArray w (Ret w (.v (.bool (decide (GoodT t ttl))))) := by
  refine enter (F := frame0 w) Try.func39 rfl [.ag (tabC t v), .v (.int .i64 ttl)] [] (by simp [Try.f39]) trivial (keeps0 w) fun a hr => ?_
  by_cases h1 : 1 ≤ ttl
  rotate_left
  · refine seg cfg39_ok mixed PanicFree.body 1000 [] [(7, false), (11, false)] hr (by first | trivial | exact HpRep.nil | assumption) (by kernel_rfl) fun s_ hs_ => ?_
    simp (maxSteps := 10000000) [SX.vc, SX.stop, SX.contS, SX.contB, SX.contW, SX.contR, SX.contD, SX.sxStep, SX.stepPure, SX.stepNew, SX.stepStore, SX.stepKeep, SX.guardIx, SX.evOp, SX.opd, SX.opds, SX.optOpd, SX.look, SX.putS, SX.gobs, SX.AllP, SX.leave, SX.lookC, SX.lookB, SX.lookT, SX.lookN, SX.findK, SX.evBuiltin, SX.ints, SX.foldI, SX.evBin, SX.evInt, SX.evStr, SX.evEq, SX.arith, SX.evLoad, SX.shapeUp, SX.evFieldAddr, SX.evField, SX.evIndexAddr, SX.evIndex, SX.evFill, SX.evBuild, SX.szs, SX.cellsV, SX.evNew, SX.evStore, SX.spliceL, SX.SV.cells, SX.evConv, SX.evSlice, SX.bnd, SX.evNil, SX.evUn, SX.evPick, SX.pickOpd, SX.popTo, SX.cnd, SX.env0, SX.TD.isAgg, SX.TD.isIface, SX.tails, SX.NotAgg, SX.evLookup, SX.evConvH, SX.evPtrEq, SX.isCells, SX.thaw, SX.frz, SX.fixB, SX.rootIx, SX.Froz, SX.frzStep, SX.fork, Go.Value.cells, Go.undef, cfg39, Try.f39, tabC, h1]
    refine ⟨by (unfold SX.Ob; first | trivial | omega | ((try simp only [SX.inK]); (try simp [SX.den, SX.IsU8, SX.AllP, *]); (try omega))), ?_⟩
    intro a1 w1 hr1 _
    exact post_retn (end1 hr1 rfl rfl ⟨ret_dec (by simp [GoodT, h1]), hr1.keeps.toBelow⟩).1
  by_cases h2 : ttl ≤ 1099511627776
  rotate_left
  · refine seg cfg39_ok mixed PanicFree.body 1000 [] [(7, true), (11, false)] hr (by first | trivial | exact HpRep.nil | assumption) (by kernel_rfl) fun s_ hs_ => ?_
    simp (maxSteps := 10000000) [SX.vc, SX.stop, SX.contS, SX.contB, SX.contW, SX.contR, SX.contD, SX.sxStep, SX.stepPure, SX.stepNew, SX.stepStore, SX.stepKeep, SX.guardIx, SX.evOp, SX.opd, SX.opds, SX.optOpd, SX.look, SX.putS, SX.gobs, SX.AllP, SX.leave, SX.lookC, SX.lookB, SX.lookT, SX.lookN, SX.findK, SX.evBuiltin, SX.ints, SX.foldI, SX.evBin, SX.evInt, SX.evStr, SX.evEq, SX.arith, SX.evLoad, SX.shapeUp, SX.evFieldAddr, SX.evField, SX.evIndexAddr, SX.evIndex, SX.evFill, SX.evBuild, SX.szs, SX.cellsV, SX.evNew, SX.evStore, SX.spliceL, SX.SV.cells, SX.evConv, SX.evSlice, SX.bnd, SX.evNil, SX.evUn, SX.evPick, SX.pickOpd, SX.popTo, SX.cnd, SX.env0, SX.TD.isAgg, SX.TD.isIface, SX.tails, SX.NotAgg, SX.evLookup, SX.evConvH, SX.evPtrEq, SX.isCells, SX.thaw, SX.frz, SX.fixB, SX.rootIx, SX.Froz, SX.frzStep, SX.fork, Go.Value.cells, Go.undef, cfg39, Try.f39, tabC, h1, h2]
    refine ⟨by (unfold SX.Ob; first | trivial | omega | ((try simp only [SX.inK]); (try simp [SX.den, SX.IsU8, SX.AllP, *]); (try omega))), ?_⟩
    intro a1 w1 hr1 _
    exact post_retn (end1 hr1 rfl rfl ⟨ret_dec (by simp [GoodT, h2]), hr1.keeps.toBelow⟩).1
  refine seg cfg39_ok mixed PanicFree.body 1000 [] [(7, true), (11, true)] hr (by first | trivial | exact HpRep.nil | assumption) (by kernel_rfl) fun s_ hs_ => ?_
  simp (maxSteps := 10000000) [SX.vc, SX.stop, SX.contS, SX.contB, SX.contW, SX.contR, SX.contD, SX.sxStep, SX.stepPure, SX.stepNew, SX.stepStore, SX.stepKeep, SX.guardIx, SX.evOp, SX.opd, SX.opds, SX.optOpd, SX.look, SX.putS, SX.gobs, SX.AllP, SX.leave, SX.lookC, SX.lookB, SX.lookT, SX.lookN, SX.findK, SX.evBuiltin, SX.ints, SX.foldI, SX.evBin, SX.evInt, SX.evStr, SX.evEq, SX.arith, SX.evLoad, SX.shapeUp, SX.evFieldAddr, SX.evField, SX.evIndexAddr, SX.evIndex, SX.evFill, SX.evBuild, SX.szs, SX.cellsV, SX.evNew, SX.evStore, SX.spliceL, SX.SV.cells, SX.evConv, SX.evSlice, SX.bnd, SX.evNil, SX.evUn, SX.evPick, SX.pickOpd, SX.popTo, SX.cnd, SX.env0, SX.TD.isAgg, SX.TD.isIface, SX.tails, SX.NotAgg, SX.evLookup, SX.evConvH, SX.evPtrEq, SX.isCells, SX.thaw, SX.frz, SX.fixB, SX.rootIx, SX.Froz, SX.frzStep, SX.fork, Go.Value.cells, Go.undef, cfg39, Try.f39, tabC, h1, h2]
  refine ⟨by (unfold SX.Ob; first | trivial | omega | ((try simp only [SX.inK]); (try simp [SX.den, SX.IsU8, SX.AllP, *]); (try omega))), ?_⟩
  intro a1 w1 hr1 _
  refine post_call 25 [.ag [.v (.int .i64 t.last), .v (.int .i64 t.now), .v v]] hr1 (by first | exact wanted_none rfl | exact wanted_zero (hr1.env.same rfl rfl rfl rfl) rfl (by simp) | exact wanted_zero (hr1.env.same rfl rfl rfl rfl) rfl (by simp [*])) rfl (callable 25 Try.func25) (check_ok w1 v t (hL.below hr1.keeps.toBelow) (by omega)) ?_
  rintro e2 w2 ⟨rfl, hb2⟩
  refine ⟨_, rfl, ?_⟩
  have h2' := hr1.ret hb2 13 (.v (.int .i64 (chkT t))) rfl _ (hr1.all.below hb2) (by simp) rfl
  by_cases hC : ChkT t
  · have hc : chkT t = 0 := if_pos hC
    refine seg cfg39_ok mixed PanicFree.body 1000 [] [(7, true), (11, true)] h2' (by first | trivial | exact HpRep.nil | assumption) (by kernel_rfl) fun s_ hs_ => ?_
    simp (maxSteps := 10000000) [SX.vc, SX.stop, SX.contS, SX.contB, SX.contW, SX.contR, SX.contD, SX.sxStep, SX.stepPure, SX.stepNew, SX.stepStore, SX.stepKeep, SX.guardIx, SX.evOp, SX.opd, SX.opds, SX.optOpd, SX.look, SX.putS, SX.gobs, SX.AllP, SX.leave, SX.lookC, SX.lookB, SX.lookT, SX.lookN, SX.findK, SX.evBuiltin, SX.ints, SX.foldI, SX.evBin, SX.evInt, SX.evStr, SX.evEq, SX.arith, SX.evLoad, SX.shapeUp, SX.evFieldAddr, SX.evField, SX.evIndexAddr, SX.evIndex, SX.evFill, SX.evBuild, SX.szs, SX.cellsV, SX.evNew, SX.evStore, SX.spliceL, SX.SV.cells, SX.evConv, SX.evSlice, SX.bnd, SX.evNil, SX.evUn, SX.evPick, SX.pickOpd, SX.popTo, SX.cnd, SX.env0, SX.TD.isAgg, SX.TD.isIface, SX.tails, SX.NotAgg, SX.evLookup, SX.evConvH, SX.evPtrEq, SX.isCells, SX.thaw, SX.frz, SX.fixB, SX.rootIx, SX.Froz, SX.frzStep, SX.fork, Go.Value.cells, Go.undef, cfg39, hc]
    refine ⟨by (unfold SX.Ob; first | trivial | omega | ((try simp only [SX.inK]); (try simp [SX.den, SX.IsU8, SX.AllP, *]); (try omega))), ?_⟩
    intro a3 w3 hr3 _
    exact post_retn (end1 hr3 rfl rfl ⟨ret_dec (by simp [GoodT, h1, h2, hC]), hr3.keeps.toBelow⟩).1
  · have hc : chkT t = 1 := if_neg hC
    refine seg cfg39_ok mixed PanicFree.body 1000 [] [(7, true), (11, true)] h2' (by first | trivial | exact HpRep.nil | assumption) (by kernel_rfl) fun s_ hs_ => ?_
    simp (maxSteps := 10000000) [SX.vc, SX.stop, SX.contS, SX.contB, SX.contW, SX.contR, SX.contD, SX.sxStep, SX.stepPure, SX.stepNew, SX.stepStore, SX.stepKeep, SX.guardIx, SX.evOp, SX.opd, SX.opds, SX.optOpd, SX.look, SX.putS, SX.gobs, SX.AllP, SX.leave, SX.lookC, SX.lookB, SX.lookT, SX.lookN, SX.findK, SX.evBuiltin, SX.ints, SX.foldI, SX.evBin, SX.evInt, SX.evStr, SX.evEq, SX.arith, SX.evLoad, SX.shapeUp, SX.evFieldAddr, SX.evField, SX.evIndexAddr, SX.evIndex, SX.evFill, SX.evBuild, SX.szs, SX.cellsV, SX.evNew, SX.evStore, SX.spliceL, SX.SV.cells, SX.evConv, SX.evSlice, SX.bnd, SX.evNil, SX.evUn, SX.evPick, SX.pickOpd, SX.popTo, SX.cnd, SX.env0, SX.TD.isAgg, SX.TD.isIface, SX.tails, SX.NotAgg, SX.evLookup, SX.evConvH, SX.evPtrEq, SX.isCells, SX.thaw, SX.frz, SX.fixB, SX.rootIx, SX.Froz, SX.frzStep, SX.fork, Go.Value.cells, Go.undef, cfg39, hc]
    refine ⟨by (unfold SX.Ob; first | trivial | omega | ((try simp only [SX.inK]); (try simp [SX.den, SX.IsU8, SX.AllP, *]); (try omega))), ?_⟩
    intro a3 w3 hr3 _
    exact post_retn (end1 hr3 rfl rfl ⟨ret_dec (by simp [GoodT, hC]), hr3.keeps.toBelow⟩).1

/-- What Grant tells. -/
def GrantOK (t : Tab) (key host ttl : Int) : Prop := GoodT t ttl ∧ 0 ≤ key ∧ 0 ≤ host ∧ host < 8
instance (t : Tab) (key host ttl : Int) : Decidable (GrantOK t key host ttl) := by unfold GrantOK; infer_instance
def grantE (t : Tab) (key host ttl : Int) : Int := if GrantOK t key host ttl then (if HasK t.L key then 60 else 0) else 1
def newX (t : Tab) (key host ttl : Int) : Lse := ⟨key, host, t.last + 1, t.now + ttl⟩
def grantX (t : Tab) (key host ttl : Int) : Lse := if grantE t key host ttl = 0 then newX t key host ttl else lse0
def grantT (t : Tab) (key host ttl : Int) : Tab := if grantE t key host ttl = 0 then ⟨t.last + 1, t.now, insK (newX t key host ttl) t.L⟩ else tab0
def GrantR (w : World) (t : Tab) (key host ttl : Int) (e : Ending) (w' : World) : Prop :=
  ∃ v1, e = .returned (den (.tu [.ag (tabC (grantT t key host ttl) v1), .ag (lseC (grantX t key host ttl)), .v (.int .i64 (grantE t key host ttl))])) ∧ RdL (fun x => w.heap.size ≤ x) w' v1 (grantT t key host ttl).L ∧ Below w.heap.size w w'

set_option maxRecDepth 100000 in
set_option maxHeartbeats 16000000 in
/-- Grant. -/
theorem Grant_ok {P : Nat → Prop} (w : World) (v : Value) (t : Tab) (key host ttl : Int) (hL : RdL P w v t.L) (hn : t.L.length ≤ 100000) (hl1 : t.last ≤ 2305843009213693952) (hl2 : t.now ≤ 2305843009213693952) : Calls Try.prog 15 (denL [.ag (tabC t v), .v (.int .i64 key), .v (.int .i64 host), .v (.int .i64 ttl)]).toArray w (GrantR w t key host ttl) := by
  refine enter (F := frame0 w) Try.func15 rfl [.ag (tabC t v), .v (.int .i64 key), .v (.int .i64 host), .v (.int .i64 ttl)] [] (by simp [Try.f15]) trivial (keeps0 w) fun a hr => ?_
  obtain ⟨ad, cp, rfl⟩ := hL.slice
  refine seg cfg15_ok mixed PanicFree.body 1000 [] [] hr (by first | trivial | exact HpRep.nil | assumption) (by kernel_rfl) fun sA hsA => ?_
  simp (maxSteps := 10000000) [SX.vc, SX.stop, SX.contS, SX.contB, SX.contW, SX.contR, SX.contD, SX.sxStep, SX.stepPure, SX.stepNew, SX.stepStore, SX.stepKeep, SX.guardIx, SX.evOp, SX.opd, SX.opds, SX.optOpd, SX.look, SX.putS, SX.gobs, SX.AllP, SX.leave, SX.lookC, SX.lookB, SX.lookT, SX.lookN, SX.findK, SX.evBuiltin, SX.ints, SX.foldI, SX.evBin, SX.evInt, SX.evStr, SX.evEq, SX.arith, SX.evLoad, SX.shapeUp, SX.evFieldAddr, SX.evField, SX.evIndexAddr, SX.evIndex, SX.evFill, SX.evBuild, SX.szs, SX.cellsV, SX.evNew, SX.evStore, SX.spliceL, SX.SV.cells, SX.evConv, SX.evSlice, SX.bnd, SX.evNil, SX.evUn, SX.evPick, SX.pickOpd, SX.popTo, SX.cnd, SX.env0, SX.TD.isAgg, SX.TD.isIface, SX.tails, SX.NotAgg, SX.evLookup, SX.evConvH, SX.evPtrEq, SX.isCells, SX.thaw, SX.frz, SX.fixB, SX.rootIx, SX.Froz, SX.frzStep, SX.fork, Go.Value.cells, Go.undef, cfg15, Try.f15, tabC]
  refine ⟨by (unfold SX.Ob; first | trivial | omega | ((try simp only [SX.inK]); (try simp [SX.den, SX.IsU8, SX.AllP, *]); (try omega))), ?_⟩
  intro a1 w1 hr1 _
  refine post_call 39 [.ag [.v (.int .i64 t.last), .v (.int .i64 t.now), .v (.slice ad t.L.length cp)], .v (.int .i64 ttl)] hr1 (by first | exact wanted_none rfl | exact wanted_zero (hr1.env.same rfl rfl rfl rfl) rfl (by simp) | exact wanted_zero (hr1.env.same rfl rfl rfl rfl) rfl (by simp [*])) rfl (callable 39 Try.func39) (good_ok w1 _ t ttl (hL.below hr1.keeps.toBelow) (by omega)) ?_
  rintro e2 w2 ⟨rfl, hb2⟩
  refine ⟨_, rfl, ?_⟩
  have h2 := hr1.ret hb2 16 (.v (.bool (decide (GoodT t ttl)))) rfl _ (hr1.all.below hb2) (by simp) rfl
  have bad : ¬ GrantOK t key host ttl → grantE t key host ttl = 1 ∧ grantX t key host ttl = lse0 ∧ grantT t key host ttl = tab0 := fun h => by
    have h1 : grantE t key host ttl = 1 := if_neg h
    exact ⟨h1, if_neg (by omega), if_neg (by omega)⟩
  by_cases hGd : GoodT t ttl
  rotate_left
  · obtain ⟨hE, hX, hT⟩ := bad fun h => hGd h.1
    refine seg cfg15_ok mixed PanicFree.body 1000 [true] [(18, true), (22, true), (26, true)] h2 (by first | trivial | exact HpRep.nil | assumption) (by kernel_rfl) fun s_ hs_ => ?_
    simp (maxSteps := 10000000) [SX.vc, SX.stop, SX.contS, SX.contB, SX.contW, SX.contR, SX.contD, SX.sxStep, SX.stepPure, SX.stepNew, SX.stepStore, SX.stepKeep, SX.guardIx, SX.evOp, SX.opd, SX.opds, SX.optOpd, SX.look, SX.putS, SX.gobs, SX.AllP, SX.leave, SX.lookC, SX.lookB, SX.lookT, SX.lookN, SX.findK, SX.evBuiltin, SX.ints, SX.foldI, SX.evBin, SX.evInt, SX.evStr, SX.evEq, SX.arith, SX.evLoad, SX.shapeUp, SX.evFieldAddr, SX.evField, SX.evIndexAddr, SX.evIndex, SX.evFill, SX.evBuild, SX.szs, SX.cellsV, SX.evNew, SX.evStore, SX.spliceL, SX.SV.cells, SX.evConv, SX.evSlice, SX.bnd, SX.evNil, SX.evUn, SX.evPick, SX.pickOpd, SX.popTo, SX.cnd, SX.env0, SX.TD.isAgg, SX.TD.isIface, SX.tails, SX.NotAgg, SX.evLookup, SX.evConvH, SX.evPtrEq, SX.isCells, SX.thaw, SX.frz, SX.fixB, SX.rootIx, SX.Froz, SX.frzStep, SX.fork, Go.Value.cells, Go.undef, cfg15, hGd]
    refine ⟨by (unfold SX.Ob; first | trivial | omega | ((try simp only [SX.inK]); (try simp [SX.den, SX.IsU8, SX.AllP, *]); (try omega))), ?_⟩
    intro a3 w3 hr3 _
    exact post_retn (endC3 hr3 rfl rfl rfl tok24 rfl rfl tok33 rfl rfl rfl ⟨.slice none 0 0, by rw [hE, hX, hT]; simp [den, denL, tabC, tab0, lseC, lse0], by rw [hT]; exact OwS.nil.rd, hr3.keeps.toBelow⟩).1
  by_cases c1 : key < 0
  · obtain ⟨hE, hX, hT⟩ := bad fun h => by have := h.2.1; omega
    refine seg cfg15_ok mixed PanicFree.body 1000 [true] [(18, false), (22, true), (26, true)] h2 (by first | trivial | exact HpRep.nil | assumption) (by kernel_rfl) fun s_ hs_ => ?_
    simp (maxSteps := 10000000) [SX.vc, SX.stop, SX.contS, SX.contB, SX.contW, SX.contR, SX.contD, SX.sxStep, SX.stepPure, SX.stepNew, SX.stepStore, SX.stepKeep, SX.guardIx, SX.evOp, SX.opd, SX.opds, SX.optOpd, SX.look, SX.putS, SX.gobs, SX.AllP, SX.leave, SX.lookC, SX.lookB, SX.lookT, SX.lookN, SX.findK, SX.evBuiltin, SX.ints, SX.foldI, SX.evBin, SX.evInt, SX.evStr, SX.evEq, SX.arith, SX.evLoad, SX.shapeUp, SX.evFieldAddr, SX.evField, SX.evIndexAddr, SX.evIndex, SX.evFill, SX.evBuild, SX.szs, SX.cellsV, SX.evNew, SX.evStore, SX.spliceL, SX.SV.cells, SX.evConv, SX.evSlice, SX.bnd, SX.evNil, SX.evUn, SX.evPick, SX.pickOpd, SX.popTo, SX.cnd, SX.env0, SX.TD.isAgg, SX.TD.isIface, SX.tails, SX.NotAgg, SX.evLookup, SX.evConvH, SX.evPtrEq, SX.isCells, SX.thaw, SX.frz, SX.fixB, SX.rootIx, SX.Froz, SX.frzStep, SX.fork, Go.Value.cells, Go.undef, cfg15, hGd, c1]
    refine ⟨by (unfold SX.Ob; first | trivial | omega | ((try simp only [SX.inK]); (try simp [SX.den, SX.IsU8, SX.AllP, *]); (try omega))), ?_⟩
    intro a3 w3 hr3 _
    exact post_retn (endC3 hr3 rfl rfl rfl tok24 rfl rfl tok33 rfl rfl rfl ⟨.slice none 0 0, by rw [hE, hX, hT]; simp [den, denL, tabC, tab0, lseC, lse0], by rw [hT]; exact OwS.nil.rd, hr3.keeps.toBelow⟩).1
  by_cases c2 : host < 0
  · obtain ⟨hE, hX, hT⟩ := bad fun h => by have := h.2.2.1; omega
    refine seg cfg15_ok mixed PanicFree.body 1000 [true] [(18, false), (22, false), (26, true)] h2 (by first | trivial | exact HpRep.nil | assumption) (by kernel_rfl) fun s_ hs_ => ?_
    simp (maxSteps := 10000000) [SX.vc, SX.stop, SX.contS, SX.contB, SX.contW, SX.contR, SX.contD, SX.sxStep, SX.stepPure, SX.stepNew, SX.stepStore, SX.stepKeep, SX.guardIx, SX.evOp, SX.opd, SX.opds, SX.optOpd, SX.look, SX.putS, SX.gobs, SX.AllP, SX.leave, SX.lookC, SX.lookB, SX.lookT, SX.lookN, SX.findK, SX.evBuiltin, SX.ints, SX.foldI, SX.evBin, SX.evInt, SX.evStr, SX.evEq, SX.arith, SX.evLoad, SX.shapeUp, SX.evFieldAddr, SX.evField, SX.evIndexAddr, SX.evIndex, SX.evFill, SX.evBuild, SX.szs, SX.cellsV, SX.evNew, SX.evStore, SX.spliceL, SX.SV.cells, SX.evConv, SX.evSlice, SX.bnd, SX.evNil, SX.evUn, SX.evPick, SX.pickOpd, SX.popTo, SX.cnd, SX.env0, SX.TD.isAgg, SX.TD.isIface, SX.tails, SX.NotAgg, SX.evLookup, SX.evConvH, SX.evPtrEq, SX.isCells, SX.thaw, SX.frz, SX.fixB, SX.rootIx, SX.Froz, SX.frzStep, SX.fork, Go.Value.cells, Go.undef, cfg15, hGd, c1, c2]
    refine ⟨by (unfold SX.Ob; first | trivial | omega | ((try simp only [SX.inK]); (try simp [SX.den, SX.IsU8, SX.AllP, *]); (try omega))), ?_⟩
    intro a3 w3 hr3 _
    exact post_retn (endC3 hr3 rfl rfl rfl tok24 rfl rfl tok33 rfl rfl rfl ⟨.slice none 0 0, by rw [hE, hX, hT]; simp [den, denL, tabC, tab0, lseC, lse0], by rw [hT]; exact OwS.nil.rd, hr3.keeps.toBelow⟩).1
  by_cases c3 : 8 ≤ host
  · obtain ⟨hE, hX, hT⟩ := bad fun h => by have := h.2.2.2; omega
    refine seg cfg15_ok mixed PanicFree.body 1000 [true] [(18, false), (22, false), (26, false)] h2 (by first | trivial | exact HpRep.nil | assumption) (by kernel_rfl) fun s_ hs_ => ?_
    simp (maxSteps := 10000000) [SX.vc, SX.stop, SX.contS, SX.contB, SX.contW, SX.contR, SX.contD, SX.sxStep, SX.stepPure, SX.stepNew, SX.stepStore, SX.stepKeep, SX.guardIx, SX.evOp, SX.opd, SX.opds, SX.optOpd, SX.look, SX.putS, SX.gobs, SX.AllP, SX.leave, SX.lookC, SX.lookB, SX.lookT, SX.lookN, SX.findK, SX.evBuiltin, SX.ints, SX.foldI, SX.evBin, SX.evInt, SX.evStr, SX.evEq, SX.arith, SX.evLoad, SX.shapeUp, SX.evFieldAddr, SX.evField, SX.evIndexAddr, SX.evIndex, SX.evFill, SX.evBuild, SX.szs, SX.cellsV, SX.evNew, SX.evStore, SX.spliceL, SX.SV.cells, SX.evConv, SX.evSlice, SX.bnd, SX.evNil, SX.evUn, SX.evPick, SX.pickOpd, SX.popTo, SX.cnd, SX.env0, SX.TD.isAgg, SX.TD.isIface, SX.tails, SX.NotAgg, SX.evLookup, SX.evConvH, SX.evPtrEq, SX.isCells, SX.thaw, SX.frz, SX.fixB, SX.rootIx, SX.Froz, SX.frzStep, SX.fork, Go.Value.cells, Go.undef, cfg15, hGd, c1, c2, c3]
    refine ⟨by (unfold SX.Ob; first | trivial | omega | ((try simp only [SX.inK]); (try simp [SX.den, SX.IsU8, SX.AllP, *]); (try omega))), ?_⟩
    intro a3 w3 hr3 _
    exact post_retn (endC3 hr3 rfl rfl rfl tok24 rfl rfl tok33 rfl rfl rfl ⟨.slice none 0 0, by rw [hE, hX, hT]; simp [den, denL, tabC, tab0, lseC, lse0], by rw [hT]; exact OwS.nil.rd, hr3.keeps.toBelow⟩).1
  have hOK : GrantOK t key host ttl := ⟨hGd, by omega, by omega, by omega⟩
  have hC := hGd.2.2
  have hsr := chk_srt hC
  have hg1 := hGd.1
  have hg2 := hGd.2.1
  have hl0 := hC.2.1
  have hn0 := hC.2.2
  refine seg cfg15_ok mixed PanicFree.body 1000 [false] [(18, false), (22, false), (26, false)] h2 (by first | trivial | exact HpRep.nil | assumption) (by kernel_rfl) fun s_ hs_ => ?_
  simp (maxSteps := 10000000) [SX.vc, SX.stop, SX.contS, SX.contB, SX.contW, SX.contR, SX.contD, SX.sxStep, SX.stepPure, SX.stepNew, SX.stepStore, SX.stepKeep, SX.guardIx, SX.evOp, SX.opd, SX.opds, SX.optOpd, SX.look, SX.putS, SX.gobs, SX.AllP, SX.leave, SX.lookC, SX.lookB, SX.lookT, SX.lookN, SX.findK, SX.evBuiltin, SX.ints, SX.foldI, SX.evBin, SX.evInt, SX.evStr, SX.evEq, SX.arith, SX.evLoad, SX.shapeUp, SX.evFieldAddr, SX.evField, SX.evIndexAddr, SX.evIndex, SX.evFill, SX.evBuild, SX.szs, SX.cellsV, SX.evNew, SX.evStore, SX.spliceL, SX.SV.cells, SX.evConv, SX.evSlice, SX.bnd, SX.evNil, SX.evUn, SX.evPick, SX.pickOpd, SX.popTo, SX.cnd, SX.env0, SX.TD.isAgg, SX.TD.isIface, SX.tails, SX.NotAgg, SX.evLookup, SX.evConvH, SX.evPtrEq, SX.isCells, SX.thaw, SX.frz, SX.fixB, SX.rootIx, SX.Froz, SX.frzStep, SX.fork, Go.Value.cells, Go.undef, cfg15, hGd, c1, c2, c3]
  refine ⟨by (unfold SX.Ob; first | trivial | omega | ((try simp only [SX.inK]); (try simp [SX.den, SX.IsU8, SX.AllP, *]); (try omega))), ?_⟩
  intro a3 w3 hr3 _
  refine post_call 40 [.ag [.v (.int .i64 t.last), .v (.int .i64 t.now), .v (.slice ad t.L.length cp)], .v (.int .i64 key)] hr3 (by first | exact wanted_none rfl | exact wanted_zero (hr3.env.same rfl rfl rfl rfl) rfl (by simp) | exact wanted_zero (hr3.env.same rfl rfl rfl rfl) rfl (by simp [*])) rfl (callable 40 Try.func40) (find_ok w3 _ t key (hL.below hr3.keeps.toBelow) (by omega)) ?_
  rintro e4 w4 ⟨i, rfl, hpl, hb4⟩
  refine ⟨_, rfl, ?_⟩
  have h4 := hr3.ret hb4 35 (.tu [.v (.int .i64 i), .v (.bool (isAt t.L key i))]) rfl _ (hr3.all.below hb4) (by simp) rfl
  have hat := place_has hpl hsr
  have hil := hpl.1
  by_cases hH : HasK t.L key
  · have hE : grantE t key host ttl = 60 := by rw [grantE, if_pos hOK, if_pos hH]
    have hX : grantX t key host ttl = lse0 := if_neg (by omega)
    have hT : grantT t key host ttl = tab0 := if_neg (by omega)
    have hat' : isAt t.L key i = true := by rw [hat]; simpa using hH
    refine seg cfg15_ok mixed PanicFree.body 1000 [true] [] h4 (by first | trivial | exact HpRep.nil | assumption) (by kernel_rfl) fun s_ hs_ => ?_
    simp (maxSteps := 10000000) [SX.vc, SX.stop, SX.contS, SX.contB, SX.contW, SX.contR, SX.contD, SX.sxStep, SX.stepPure, SX.stepNew, SX.stepStore, SX.stepKeep, SX.guardIx, SX.evOp, SX.opd, SX.opds, SX.optOpd, SX.look, SX.putS, SX.gobs, SX.AllP, SX.leave, SX.lookC, SX.lookB, SX.lookT, SX.lookN, SX.findK, SX.evBuiltin, SX.ints, SX.foldI, SX.evBin, SX.evInt, SX.evStr, SX.evEq, SX.arith, SX.evLoad, SX.shapeUp, SX.evFieldAddr, SX.evField, SX.evIndexAddr, SX.evIndex, SX.evFill, SX.evBuild, SX.szs, SX.cellsV, SX.evNew, SX.evStore, SX.spliceL, SX.SV.cells, SX.evConv, SX.evSlice, SX.bnd, SX.evNil, SX.evUn, SX.evPick, SX.pickOpd, SX.popTo, SX.cnd, SX.env0, SX.TD.isAgg, SX.TD.isIface, SX.tails, SX.NotAgg, SX.evLookup, SX.evConvH, SX.evPtrEq, SX.isCells, SX.thaw, SX.frz, SX.fixB, SX.rootIx, SX.Froz, SX.frzStep, SX.fork, Go.Value.cells, Go.undef, cfg15, hat']
    refine ⟨by (unfold SX.Ob; first | trivial | omega | ((try simp only [SX.inK]); (try simp [SX.den, SX.IsU8, SX.AllP, *]); (try omega))), ?_⟩
    intro a5 w5 hr5 _
    exact post_retn (endC3 hr5 rfl rfl rfl tok24 rfl rfl tok33 rfl rfl rfl ⟨.slice none 0 0, by rw [hE, hX, hT]; simp [den, denL, tabC, tab0, lseC, lse0], by rw [hT]; exact OwS.nil.rd, hr5.keeps.toBelow⟩).1
  have hE : grantE t key host ttl = 0 := by rw [grantE, if_pos hOK, if_neg hH]
  have hX : grantX t key host ttl = newX t key host ttl := if_pos hE
  have hT : grantT t key host ttl = ⟨t.last + 1, t.now, insK (newX t key host ttl) t.L⟩ := if_pos hE
  have hat' : isAt t.L key i = false := by rw [hat]; simpa using hH
  have hins := place_ins (x := newX t key host ttl) hpl hsr hH
  refine seg cfg15_ok mixed PanicFree.body 1000 [false] [] h4 (by first | trivial | exact HpRep.nil | assumption) (by kernel_rfl) fun s_ hs_ => ?_
  simp (maxSteps := 10000000) [SX.vc, SX.stop, SX.contS, SX.contB, SX.contW, SX.contR, SX.contD, SX.sxStep, SX.stepPure, SX.stepNew, SX.stepStore, SX.stepKeep, SX.guardIx, SX.evOp, SX.opd, SX.opds, SX.optOpd, SX.look, SX.putS, SX.gobs, SX.AllP, SX.leave, SX.lookC, SX.lookB, SX.lookT, SX.lookN, SX.findK, SX.evBuiltin, SX.ints, SX.foldI, SX.evBin, SX.evInt, SX.evStr, SX.evEq, SX.arith, SX.evLoad, SX.shapeUp, SX.evFieldAddr, SX.evField, SX.evIndexAddr, SX.evIndex, SX.evFill, SX.evBuild, SX.szs, SX.cellsV, SX.evNew, SX.evStore, SX.spliceL, SX.SV.cells, SX.evConv, SX.evSlice, SX.bnd, SX.evNil, SX.evUn, SX.evPick, SX.pickOpd, SX.popTo, SX.cnd, SX.env0, SX.TD.isAgg, SX.TD.isIface, SX.tails, SX.NotAgg, SX.evLookup, SX.evConvH, SX.evPtrEq, SX.isCells, SX.thaw, SX.frz, SX.fixB, SX.rootIx, SX.Froz, SX.frzStep, SX.fork, Go.Value.cells, Go.undef, cfg15, hat']
  refine ⟨by (unfold SX.Ob; first | trivial | omega | ((try simp only [SX.inK]); (try simp [SX.den, SX.IsU8, SX.AllP, *]); (try omega))), ?_⟩
  intro a5 w5 hr5 ht5
  have hA5 := hr5.all
  have z5 : w.heap.size ≤ w5.heap.size := hr5.keeps.size
  have k0 := SO.rep_lt hA5.1.1
  have k1 := SO.rep_lt hA5.2.1.1
  have k2 := SO.rep_lt hA5.2.2.1.1
  have k3 := SO.rep_lt hA5.2.2.2.1.1
  refine post_both ?_ ?_
  · refine post_callD 42 [.v (.slice ad t.L.length cp)] hr5 rfl (by first | exact wanted_none rfl | exact wanted_zero (hr5.env.same rfl rfl rfl rfl) rfl (by simp) | exact wanted_zero (hr5.env.same rfl rfl rfl rfl) rfl (by simp [*])) rfl (callable 42 Try.func42) (clone_all w5 _ t.L (hL.below hr5.keeps.toBelow) (by omega)) ?_
    rintro e6 w6 ⟨v6, rfl, hO6, hb6⟩
    have ht6 := HpRep_below ht5 hb6
    refine ⟨_, rfl, ht6, ?_⟩
    have hr6 := hr5.ret hb6 56 (.v v6) rfl _ (hr5.all.below hb6) (by simp) rfl
    have z56 : w5.heap.size ≤ w6.heap.size := hb6.size
    have hO6' := hO6.mono (P' := fun x => w5.heap.size ≤ x ∧ x < w6.heap.size) fun x h1 h2 => ⟨h2, h1⟩
    refine seg cfg15_ok mixed PanicFree.body 1000 [] [] hr6.rebase (by first | trivial | exact HpRep.nil | assumption) (by kernel_rfl) fun sL hsL => ?_
    simp (maxSteps := 10000000) [SX.vc, SX.stop, SX.contS, SX.contB, SX.contW, SX.contR, SX.contD, SX.sxStep, SX.stepPure, SX.stepNew, SX.stepStore, SX.stepKeep, SX.guardIx, SX.evOp, SX.opd, SX.opds, SX.optOpd, SX.look, SX.putS, SX.gobs, SX.AllP, SX.leave, SX.lookC, SX.lookB, SX.lookT, SX.lookN, SX.findK, SX.evBuiltin, SX.ints, SX.foldI, SX.evBin, SX.evInt, SX.evStr, SX.evEq, SX.arith, SX.evLoad, SX.shapeUp, SX.evFieldAddr, SX.evField, SX.evIndexAddr, SX.evIndex, SX.evFill, SX.evBuild, SX.szs, SX.cellsV, SX.evNew, SX.evStore, SX.spliceL, SX.SV.cells, SX.evConv, SX.evSlice, SX.bnd, SX.evNil, SX.evUn, SX.evPick, SX.pickOpd, SX.popTo, SX.cnd, SX.env0, SX.TD.isAgg, SX.TD.isIface, SX.tails, SX.NotAgg, SX.evLookup, SX.evConvH, SX.evPtrEq, SX.isCells, SX.thaw, SX.frz, SX.fixB, SX.rootIx, SX.Froz, SX.frzStep, SX.fork, Go.Value.cells, Go.undef, cfg15]
    refine ⟨by (unfold SX.Ob; first | trivial | omega | ((try simp only [SX.inK]); (try simp [SX.den, SX.IsU8, SX.AllP, *]); (try omega))), ?_⟩
    intro a7 w7 hr7' ht7
    have hr7 := hr6.unbase hr7'
    have z67 : w6.heap.size ≤ w7.heap.size := hr7'.keeps.size
    have hO7 := hO6'.keep hr7'.keeps (by simp [frameAt, mutB]; omega)
    have hsL : w6.heap.size ≤ sL := by
      rcases hr7'.all.2.2.2.2.1.2.1 rfl with h | h
      · exact h
      · simp [frameAt, mutB] at h; omega
    have hsQ : ¬ (w5.heap.size ≤ sL ∧ sL < w6.heap.size) := fun h => by omega
    have hs7 : (SO.arr 0 1 (fun _ => lseC (newX t key host ttl)) 4 33 (0, 0)).rep w7 sL := rep_arr_sub hr7.all.2.2.2.2.1.1 (Nat.le_refl _) (fun j hj => by
      obtain rfl : j = 0 := by omega
      simp [lseC, newX])
    have hins7 := insert_ok w7 v6 t.L hO7 i hil (by omega) sL 33 (newX t key host ttl) hs7 hsQ
    rw [hins] at hins7
    refine post_callD 41 [.v v6, .v (.int .i64 i), .sl 4 sL 0 0 1 1 4] hr7 rfl (wanted_none rfl) rfl (callable 41 Try.func41) hins7 ?_
    rintro e8 w8 ⟨V, B, rfl, hO8, hB, hk8⟩
    have hBge : ∀ x ∈ B, w5.heap.size ≤ x := fun x hx => (hB x hx).1.1
    have z8 : w7.heap.size ≤ w8.heap.size := hk8.size
    have ht8 := HpRep.to ht7 hk8 (fun e he hb => by
      have := hBge _ hb
      simp [thaw] at he
      rcases he with rfl | rfl | rfl | rfl <;> (simp at this; omega))
    refine ⟨_, rfl, ht8, ?_⟩
    have h8 := hr7.retK hk8 (fun x hx => .inl (Nat.le_trans z5 (hBge x hx))) 60 (.v V) rfl _ (HpAll.to hk8 (hr7.all.take 4) (fun e he hb => by
      have := hBge _ hb
      simp at he
      rcases he with rfl | rfl | rfl | rfl <;> (simp at this; omega))) (by simp) rfl
    obtain ⟨adV, cpV, rfl⟩ := hO8.slice
    have hO8' := hO8.rd.mono (P' := fun x => w5.heap.size ≤ x) fun x _ h => by
      rcases h with h | h
      · exact h.1
      · omega
    refine seg cfg15_ok mixed PanicFree.body 1000 [] [] h8.rebase (by first | trivial | exact HpRep.nil | assumption) (by kernel_rfl) fun s_ hs_ => ?_
    simp (maxSteps := 10000000) [SX.vc, SX.stop, SX.contS, SX.contB, SX.contW, SX.contR, SX.contD, SX.sxStep, SX.stepPure, SX.stepNew, SX.stepStore, SX.stepKeep, SX.guardIx, SX.evOp, SX.opd, SX.opds, SX.optOpd, SX.look, SX.putS, SX.gobs, SX.AllP, SX.leave, SX.lookC, SX.lookB, SX.lookT, SX.lookN, SX.findK, SX.evBuiltin, SX.ints, SX.foldI, SX.evBin, SX.evInt, SX.evStr, SX.evEq, SX.arith, SX.evLoad, SX.shapeUp, SX.evFieldAddr, SX.evField, SX.evIndexAddr, SX.evIndex, SX.evFill, SX.evBuild, SX.szs, SX.cellsV, SX.evNew, SX.evStore, SX.spliceL, SX.SV.cells, SX.evConv, SX.evSlice, SX.bnd, SX.evNil, SX.evUn, SX.evPick, SX.pickOpd, SX.popTo, SX.cnd, SX.env0, SX.TD.isAgg, SX.TD.isIface, SX.tails, SX.NotAgg, SX.evLookup, SX.evConvH, SX.evPtrEq, SX.isCells, SX.thaw, SX.frz, SX.fixB, SX.rootIx, SX.Froz, SX.frzStep, SX.fork, Go.Value.cells, Go.undef, cfg15]
    refine ⟨by (unfold SX.Ob; first | trivial | omega | ((try simp only [SX.inK]); (try simp [SX.den, SX.IsU8, SX.AllP, *]); (try omega))), ?_⟩
    intro a9 w9 hr9' _
    have hr9 := h8.unbase hr9'
    have hO9 := hO8'.keep hr9'.keeps (by simp [frameAt, mutB]; omega)
    exact post_retn (endC3 hr9 rfl rfl rfl tok24 rfl rfl tok33 rfl rfl rfl ⟨.slice adV (insK (newX t key host ttl) t.L).length cpV, by rw [hE, hX, hT]; simp [den, denL, tabC, lseC, newX], by rw [hT]; exact hO9.mono fun x _ h => by omega, hr9.keeps.toBelow⟩).1
  · refine seg cfg15_ok mixed PanicFree.body 1000 [] [] hr5.rebase (by first | trivial | exact HpRep.nil | assumption) (by kernel_rfl) fun sL hsL => ?_
    simp (maxSteps := 10000000) [SX.vc, SX.stop, SX.contS, SX.contB, SX.contW, SX.contR, SX.contD, SX.sxStep, SX.stepPure, SX.stepNew, SX.stepStore, SX.stepKeep, SX.guardIx, SX.evOp, SX.opd, SX.opds, SX.optOpd, SX.look, SX.putS, SX.gobs, SX.AllP, SX.leave, SX.lookC, SX.lookB, SX.lookT, SX.lookN, SX.findK, SX.evBuiltin, SX.ints, SX.foldI, SX.evBin, SX.evInt, SX.evStr, SX.evEq, SX.arith, SX.evLoad, SX.shapeUp, SX.evFieldAddr, SX.evField, SX.evIndexAddr, SX.evIndex, SX.evFill, SX.evBuild, SX.szs, SX.cellsV, SX.evNew, SX.evStore, SX.spliceL, SX.SV.cells, SX.evConv, SX.evSlice, SX.bnd, SX.evNil, SX.evUn, SX.evPick, SX.pickOpd, SX.popTo, SX.cnd, SX.env0, SX.TD.isAgg, SX.TD.isIface, SX.tails, SX.NotAgg, SX.evLookup, SX.evConvH, SX.evPtrEq, SX.isCells, SX.thaw, SX.frz, SX.fixB, SX.rootIx, SX.Froz, SX.frzStep, SX.fork, Go.Value.cells, Go.undef, cfg15]
    refine ⟨by (unfold SX.Ob; first | trivial | omega | ((try simp only [SX.inK]); (try simp [SX.den, SX.IsU8, SX.AllP, *]); (try omega))), ?_⟩
    intro a6 w6 hr6' ht6
    have hr6 := hr5.unbase hr6'
    have z56 : w5.heap.size ≤ w6.heap.size := hr6'.keeps.size
    refine post_callD 42 [.v (.slice ad t.L.length cp)] hr6 rfl (by first | exact wanted_none rfl | exact wanted_zero (hr6.env.same rfl rfl rfl rfl) rfl (by simp) | exact wanted_zero (hr6.env.same rfl rfl rfl rfl) rfl (by simp [*])) rfl (callable 42 Try.func42) (clone_all w6 _ t.L (hL.below hr6.keeps.toBelow) (by omega)) ?_
    rintro e7 w7 ⟨v6, rfl, hO7a, hb7⟩
    have ht7 := HpRep_below ht6 hb7
    refine ⟨_, rfl, ht7, ?_⟩
    have hr7 := hr6.ret hb7 56 (.v v6) rfl _ (hr6.all.below hb7) (by simp) rfl
    have z67 : w6.heap.size ≤ w7.heap.size := hb7.size
    have hO7 := hO7a.mono (P' := fun x => w5.heap.size ≤ x ∧ w6.heap.size ≤ x) fun x h1 h2 => ⟨by omega, h2⟩
    have hsL6 := SO.rep_lt hr6.all.2.2.2.2.1.1
    have hsQ : ¬ (w5.heap.size ≤ sL ∧ w6.heap.size ≤ sL) := fun h => by omega
    have hs7 : (SO.arr 0 1 (fun _ => lseC (newX t key host ttl)) 4 33 (0, 0)).rep w7 sL := rep_arr_sub hr7.all.2.2.2.2.1.1 (Nat.le_refl _) (fun j hj => by
      obtain rfl : j = 0 := by omega
      simp [lseC, newX])
    have hins7 := insert_ok w7 v6 t.L hO7 i hil (by omega) sL 33 (newX t key host ttl) hs7 hsQ
    rw [hins] at hins7
    refine post_callD 41 [.v v6, .v (.int .i64 i), .sl 4 sL 0 0 1 1 4] hr7 rfl (wanted_none rfl) rfl (callable 41 Try.func41) hins7 ?_
    rintro e8 w8 ⟨V, B, rfl, hO8, hB, hk8⟩
    have hBge : ∀ x ∈ B, w5.heap.size ≤ x := fun x hx => (hB x hx).1.1
    have z8 : w7.heap.size ≤ w8.heap.size := hk8.size
    have ht8 := HpRep.to ht7 hk8 (fun e he hb => by
      have := hBge _ hb
      simp [thaw] at he
      rcases he with rfl | rfl | rfl | rfl <;> (simp at this; omega))
    refine ⟨_, rfl, ht8, ?_⟩
    have h8 := hr7.retK hk8 (fun x hx => .inl (Nat.le_trans z5 (hBge x hx))) 60 (.v V) rfl _ (HpAll.to hk8 (hr7.all.take 4) (fun e he hb => by
      have := hBge _ hb
      simp at he
      rcases he with rfl | rfl | rfl | rfl <;> (simp at this; omega))) (by simp) rfl
    obtain ⟨adV, cpV, rfl⟩ := hO8.slice
    have hO8' := hO8.rd.mono (P' := fun x => w5.heap.size ≤ x) fun x _ h => by
      rcases h with h | h
      · exact h.1
      · omega
    refine seg cfg15_ok mixed PanicFree.body 1000 [] [] h8.rebase (by first | trivial | exact HpRep.nil | assumption) (by kernel_rfl) fun s_ hs_ => ?_
    simp (maxSteps := 10000000) [SX.vc, SX.stop, SX.contS, SX.contB, SX.contW, SX.contR, SX.contD, SX.sxStep, SX.stepPure, SX.stepNew, SX.stepStore, SX.stepKeep, SX.guardIx, SX.evOp, SX.opd, SX.opds, SX.optOpd, SX.look, SX.putS, SX.gobs, SX.AllP, SX.leave, SX.lookC, SX.lookB, SX.lookT, SX.lookN, SX.findK, SX.evBuiltin, SX.ints, SX.foldI, SX.evBin, SX.evInt, SX.evStr, SX.evEq, SX.arith, SX.evLoad, SX.shapeUp, SX.evFieldAddr, SX.evField, SX.evIndexAddr, SX.evIndex, SX.evFill, SX.evBuild, SX.szs, SX.cellsV, SX.evNew, SX.evStore, SX.spliceL, SX.SV.cells, SX.evConv, SX.evSlice, SX.bnd, SX.evNil, SX.evUn, SX.evPick, SX.pickOpd, SX.popTo, SX.cnd, SX.env0, SX.TD.isAgg, SX.TD.isIface, SX.tails, SX.NotAgg, SX.evLookup, SX.evConvH, SX.evPtrEq, SX.isCells, SX.thaw, SX.frz, SX.fixB, SX.rootIx, SX.Froz, SX.frzStep, SX.fork, Go.Value.cells, Go.undef, cfg15]
    refine ⟨by (unfold SX.Ob; first | trivial | omega | ((try simp only [SX.inK]); (try simp [SX.den, SX.IsU8, SX.AllP, *]); (try omega))), ?_⟩
    intro a9 w9 hr9' _
    have hr9 := h8.unbase hr9'
    have hO9 := hO8'.keep hr9'.keeps (by simp [frameAt, mutB]; omega)
    exact post_retn (endC3 hr9 rfl rfl rfl tok24 rfl rfl tok33 rfl rfl rfl ⟨.slice adV (insK (newX t key host ttl) t.L).length cpV, by rw [hE, hX, hT]; simp [den, denL, tabC, lseC, newX], by rw [hT]; exact hO9.mono fun x _ h => by omega, hr9.keeps.toBelow⟩).1
end Go.Proofs
