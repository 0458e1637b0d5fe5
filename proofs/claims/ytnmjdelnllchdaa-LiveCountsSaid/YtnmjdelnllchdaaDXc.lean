/- Extents: where a block's extent would be. -/
import Derived.Test.YtnmjdelnllchdaaDXa
namespace Go.Proofs
set_option linter.unusedVariables false
set_option linter.unusedSimpArgs false
set_option linter.unusedSectionVars false
open Go Go.SX Go.RowKit

theorem ChkFrom.low {last : Int} {L : List Ext} (h : ChkFrom last L) : ∀ e ∈ L, last ≤ e.lba := by
  induction L generalizing last with
  | nil => intro e he; cases he
  | cons x r ih =>
    intro e he
    have h1 : 1 ≤ x.n := h.1.2.1
    rcases List.mem_cons.1 he with rfl | he
    · exact h.2.1
    · have h2 := ih h.2.2 e he
      have h3 := h.2.1
      omega

theorem ChkFrom.pair {last : Int} {L : List Ext} (h : ChkFrom last L) : L.Pairwise (fun a b => a.lba + a.n ≤ b.lba) := by
  induction L generalizing last with
  | nil => exact List.Pairwise.nil
  | cons x r ih => exact List.Pairwise.cons (fun e he => h.2.2.low e he) (ih h.2.2)

theorem Chk.lt {L : List Ext} (h : Chk L) {i j : Nat} (hij : i < j) (hj : j < L.length) : (nth ext0 L i).lba + (nth ext0 L i).n ≤ (nth ext0 L j).lba := by
  have := List.pairwise_iff_getElem.1 (ChkFrom.pair h) i j (by omega) hj hij
  rw [nth_lt (by omega), nth_lt hj]
  exact this
theorem Chk.mayN {L : List Ext} (h : Chk L) {j : Nat} (hj : j < L.length) : May (nth ext0 L j) := ChkFrom.may h _ (nth_mem hj)

/-- i is the place of the first extent that ends behind a block. -/
def FirstI (L : List Ext) (lba : Int) (i : Nat) : Prop := i ≤ L.length ∧ (∀ j, j < i → (nth ext0 L j).lba + (nth ext0 L j).n ≤ lba) ∧ ∀ j, i ≤ j → j < L.length → lba < (nth ext0 L j).lba + (nth ext0 L j).n

def BsLoop (w : World) (v : Value) (L : List Ext) (lba : Int) (m : Nat) (a : Act) (w' : World) : Prop :=
  ∃ lo hi : Nat, m = hi - lo ∧ lo ≤ hi ∧ hi ≤ L.length ∧ (∀ j, j < lo → (nth ext0 L j).lba + (nth ext0 L j).n ≤ lba) ∧ (∀ j, hi ≤ j → j < L.length → lba < (nth ext0 L j).lba + (nth ext0 L j).n) ∧
    RepX (frame0 w) ⟨[(9, 0, .v (.int .i64 lo)), (10, 0, .v (.int .i64 hi)), (8, 0, .v (.int .i64 L.length)), (0, 0, .v v), (1, 0, .v (.int .i64 lba)), (2, 0, .fn (.func 75) [] [])], [], 0, 0, 49, [], [], []⟩ a w'

def BsPost (w : World) (L : List Ext) (lba : Int) (e : Ending) (w' : World) : Prop := ∃ i : Nat, e = .returned (den (.tu [.v (.int .i64 i), .v (.bool false)])) ∧ FirstI L lba i ∧ Below w.heap.size w w'

set_option maxRecDepth 100000 in
set_option maxHeartbeats 8000000 in
theorem bs_ok {P : Nat → Prop} (w : World) (v : Value) (L : List Ext) (lba : Int) (hL : RdE P w v L) (hC : Chk L) (hn : L.length ≤ 1000000) : Calls Try.prog 74 (denL [.v v, .v (.int .i64 lba), .fn (.func 75) [] []]).toArray w (BsPost w L lba) := by
  obtain ⟨ad, cp, rfl⟩ := hL.slice
  refine enter (F := frame0 w) Try.func74 rfl [.v (.slice ad L.length cp), .v (.int .i64 lba), .fn (.func 75) [] []] [] (by simp [Try.f74]) trivial (keeps0 w) fun a hr => ?_
  refine seg cfg74_ok mixed PanicFree.body 1000 [] [] hr (by first | trivial | exact HpRep.nil | assumption) (by kernel_rfl) fun s_ hs_ => ?_
  simp (maxSteps := 10000000) [SX.vc, SX.stop, SX.contS, SX.contB, SX.contW, SX.contR, SX.contD, SX.sxStep, SX.stepPure, SX.stepNew, SX.stepStore, SX.stepKeep, SX.guardIx, SX.evOp, SX.opd, SX.opds, SX.optOpd, SX.look, SX.putS, SX.gobs, SX.AllP, SX.leave, SX.lookC, SX.lookB, SX.lookT, SX.lookN, SX.findK, SX.evBuiltin, SX.ints, SX.foldI, SX.evBin, SX.evInt, SX.evStr, SX.evEq, SX.arith, SX.evLoad, SX.shapeUp, SX.evFieldAddr, SX.evField, SX.evIndexAddr, SX.evIndex, SX.evFill, SX.evBuild, SX.szs, SX.cellsV, SX.evNew, SX.evStore, SX.spliceL, SX.SV.cells, SX.evConv, SX.evSlice, SX.bnd, SX.evNil, SX.evUn, SX.evPick, SX.pickOpd, SX.popTo, SX.cnd, SX.env0, SX.TD.isAgg, SX.TD.isIface, SX.tails, SX.NotAgg, SX.evLookup, SX.evConvH, SX.evPtrEq, SX.isCells, SX.thaw, SX.frz, SX.fixB, SX.rootIx, SX.Froz, SX.frzStep, SX.fork, Go.Value.cells, Go.undef, cfg74, Try.f74]
  refine ⟨by (unfold SX.Ob; first | trivial | omega | ((try simp only [SX.inK]); (try simp [SX.den, SX.IsU8, SX.AllP, *]); (try omega))), ?_⟩
  intro a1 w1 hr1 _
  refine post_loop (BsLoop w (.slice ad L.length cp) L lba) L.length ⟨0, L.length, rfl, by omega, by omega, by omega, by omega, hr1.re (by simp [envTo, SX.look]) trivial rfl rfl⟩ ?_
  rintro m a2 w2 ⟨lo, hi, rfl, hlh, hhn, hlo, hhi, hr2⟩
  by_cases hlt : lo < hi
  · obtain ⟨mid, hmid⟩ : ∃ mid : Nat, (lo + hi) / 2 = mid := ⟨_, rfl⟩
    obtain ⟨b, o0, cap, u, fz, hP, hv, hrep⟩ := hL.opn (show mid < L.length by omega)
    cases hv
    have hrep2 := SO.rep_same hrep (hr2.keeps.toBelow.block _ (SO.rep_lt hrep))
    obtain ⟨x, hx⟩ : ∃ x, nth ext0 L mid = x := ⟨_, rfl⟩
    have h2 := (hr2.top 0 (.sl 0 b o0 0 L.length cp 5) rfl (by simp [den])).see _ (HpAll.one hrep2)
    have hm := mid_ok lo hi (by omega)
    rw [hmid] at hm
    refine seg cfg74_ok mixed PanicFree.body 1000 [true] [] h2 (by first | trivial | exact HpRep.nil | assumption) (by kernel_rfl) fun s_ hs_ => ?_
    simp (maxSteps := 10000000) [SX.vc, SX.stop, SX.contS, SX.contB, SX.contW, SX.contR, SX.contD, SX.sxStep, SX.stepPure, SX.stepNew, SX.stepStore, SX.stepKeep, SX.guardIx, SX.evOp, SX.opd, SX.opds, SX.optOpd, SX.look, SX.putS, SX.gobs, SX.AllP, SX.leave, SX.lookC, SX.lookB, SX.lookT, SX.lookN, SX.findK, SX.evBuiltin, SX.ints, SX.foldI, SX.evBin, SX.evInt, SX.evStr, SX.evEq, SX.arith, SX.evLoad, SX.shapeUp, SX.evFieldAddr, SX.evField, SX.evIndexAddr, SX.evIndex, SX.evFill, SX.evBuild, SX.szs, SX.cellsV, SX.evNew, SX.evStore, SX.spliceL, SX.SV.cells, SX.evConv, SX.evSlice, SX.bnd, SX.evNil, SX.evUn, SX.evPick, SX.pickOpd, SX.popTo, SX.cnd, SX.env0, SX.TD.isAgg, SX.TD.isIface, SX.tails, SX.NotAgg, SX.evLookup, SX.evConvH, SX.evPtrEq, SX.isCells, SX.thaw, SX.frz, SX.fixB, SX.rootIx, SX.Froz, SX.frzStep, SX.fork, Go.Value.cells, Go.undef, cfg74, extC, hx, hm]
    refine ⟨by (unfold SX.Ob; first | trivial | omega | ((try simp only [SX.inK]); (try simp [SX.den, SX.IsU8, SX.AllP, *]); (try omega))), ?_⟩
    intro a3 w3 hr3 _
    have hS : SmE x := hx ▸ (hC.mayN (show mid < L.length by omega)).sm
    refine post_call 75 [.ag (extC x), .v (.int .i64 lba)] hr3 (by first | exact wanted_none rfl | exact wanted_zero (hr3.env.same rfl rfl rfl rfl) rfl (by simp) | exact wanted_zero (hr3.env.same rfl rfl rfl rfl) rfl (by simp [*])) rfl (callable 75 Try.func75) (cmp_ok w3 x lba hS) ?_
    rintro e4 w4 ⟨rfl, hb4⟩
    refine ⟨_, rfl, ?_⟩
    have h4 := hr3.ret hb4 30 (.v (.int .i64 (if x.lba + x.n ≤ lba then -1 else 1))) rfl _ (hr3.all.below hb4) (by simp) rfl
    by_cases hc : x.lba + x.n ≤ lba
    · refine seg cfg74_ok mixed PanicFree.body 1000 [true] [] h4 (by first | trivial | exact HpRep.nil | assumption) (by kernel_rfl) fun s_ hs_ => ?_
      simp (maxSteps := 10000000) [SX.vc, SX.stop, SX.contS, SX.contB, SX.contW, SX.contR, SX.contD, SX.sxStep, SX.stepPure, SX.stepNew, SX.stepStore, SX.stepKeep, SX.guardIx, SX.evOp, SX.opd, SX.opds, SX.optOpd, SX.look, SX.putS, SX.gobs, SX.AllP, SX.leave, SX.lookC, SX.lookB, SX.lookT, SX.lookN, SX.findK, SX.evBuiltin, SX.ints, SX.foldI, SX.evBin, SX.evInt, SX.evStr, SX.evEq, SX.arith, SX.evLoad, SX.shapeUp, SX.evFieldAddr, SX.evField, SX.evIndexAddr, SX.evIndex, SX.evFill, SX.evBuild, SX.szs, SX.cellsV, SX.evNew, SX.evStore, SX.spliceL, SX.SV.cells, SX.evConv, SX.evSlice, SX.bnd, SX.evNil, SX.evUn, SX.evPick, SX.pickOpd, SX.popTo, SX.cnd, SX.env0, SX.TD.isAgg, SX.TD.isIface, SX.tails, SX.NotAgg, SX.evLookup, SX.evConvH, SX.evPtrEq, SX.isCells, SX.thaw, SX.frz, SX.fixB, SX.rootIx, SX.Froz, SX.frzStep, SX.fork, Go.Value.cells, Go.undef, cfg74, hc]
      refine ⟨by (unfold SX.Ob; first | trivial | omega | ((try simp only [SX.inK]); (try simp [SX.den, SX.IsU8, SX.AllP, *]); (try omega))), ?_⟩
      intro a5 w5 hr5 _
      exact post_rnd (hi - (mid + 1)) (by omega) ⟨mid + 1, hi, rfl, by omega, hhn, fun j hj => by
        rcases Nat.lt_or_ge j mid with hj1 | hj1
        · have h1 := hC.lt hj1 (show mid < L.length by omega)
          have h2 := (hC.mayN (show mid < L.length by omega)).2.1
          rw [hx] at h1 h2
          omega
        · obtain rfl : j = mid := by omega
          rw [hx]; exact hc, hhi, hr5.re (by simp [envTo, SX.look, den]) trivial rfl rfl⟩
    · refine seg cfg74_ok mixed PanicFree.body 1000 [false] [] h4 (by first | trivial | exact HpRep.nil | assumption) (by kernel_rfl) fun s_ hs_ => ?_
      simp (maxSteps := 10000000) [SX.vc, SX.stop, SX.contS, SX.contB, SX.contW, SX.contR, SX.contD, SX.sxStep, SX.stepPure, SX.stepNew, SX.stepStore, SX.stepKeep, SX.guardIx, SX.evOp, SX.opd, SX.opds, SX.optOpd, SX.look, SX.putS, SX.gobs, SX.AllP, SX.leave, SX.lookC, SX.lookB, SX.lookT, SX.lookN, SX.findK, SX.evBuiltin, SX.ints, SX.foldI, SX.evBin, SX.evInt, SX.evStr, SX.evEq, SX.arith, SX.evLoad, SX.shapeUp, SX.evFieldAddr, SX.evField, SX.evIndexAddr, SX.evIndex, SX.evFill, SX.evBuild, SX.szs, SX.cellsV, SX.evNew, SX.evStore, SX.spliceL, SX.SV.cells, SX.evConv, SX.evSlice, SX.bnd, SX.evNil, SX.evUn, SX.evPick, SX.pickOpd, SX.popTo, SX.cnd, SX.env0, SX.TD.isAgg, SX.TD.isIface, SX.tails, SX.NotAgg, SX.evLookup, SX.evConvH, SX.evPtrEq, SX.isCells, SX.thaw, SX.frz, SX.fixB, SX.rootIx, SX.Froz, SX.frzStep, SX.fork, Go.Value.cells, Go.undef, cfg74, hc]
      refine ⟨by (unfold SX.Ob; first | trivial | omega | ((try simp only [SX.inK]); (try simp [SX.den, SX.IsU8, SX.AllP, *]); (try omega))), ?_⟩
      intro a5 w5 hr5 _
      exact post_rnd (mid - lo) (by omega) ⟨lo, mid, rfl, by omega, by omega, hlo, fun j hj hjn => by
        rcases Nat.lt_or_ge mid j with hj1 | hj1
        · have h1 := hC.lt hj1 hjn
          have h2 := (hC.mayN hjn).2.1
          rw [hx] at h1
          omega
        · obtain rfl : j = mid := by omega
          rw [hx]; omega, hr5.re (by simp [envTo, SX.look, den]) trivial rfl rfl⟩
  · obtain rfl : lo = hi := by omega
    by_cases hlt : lo < L.length
    · obtain ⟨b, o0, cap, u, fz, hP, hv, hrep⟩ := hL.opn hlt
      cases hv
      have hrep2 := SO.rep_same hrep (hr2.keeps.toBelow.block _ (SO.rep_lt hrep))
      obtain ⟨x, hx⟩ : ∃ x, nth ext0 L lo = x := ⟨_, rfl⟩
      have h2 := (hr2.top 0 (.sl 0 b o0 0 L.length cp 5) rfl (by simp [den])).see _ (HpAll.one hrep2)
      refine seg cfg74_ok mixed PanicFree.body 1000 [false] [(39, true)] h2 (by first | trivial | exact HpRep.nil | assumption) (by kernel_rfl) fun s_ hs_ => ?_
      simp (maxSteps := 10000000) [SX.vc, SX.stop, SX.contS, SX.contB, SX.contW, SX.contR, SX.contD, SX.sxStep, SX.stepPure, SX.stepNew, SX.stepStore, SX.stepKeep, SX.guardIx, SX.evOp, SX.opd, SX.opds, SX.optOpd, SX.look, SX.putS, SX.gobs, SX.AllP, SX.leave, SX.lookC, SX.lookB, SX.lookT, SX.lookN, SX.findK, SX.evBuiltin, SX.ints, SX.foldI, SX.evBin, SX.evInt, SX.evStr, SX.evEq, SX.arith, SX.evLoad, SX.shapeUp, SX.evFieldAddr, SX.evField, SX.evIndexAddr, SX.evIndex, SX.evFill, SX.evBuild, SX.szs, SX.cellsV, SX.evNew, SX.evStore, SX.spliceL, SX.SV.cells, SX.evConv, SX.evSlice, SX.bnd, SX.evNil, SX.evUn, SX.evPick, SX.pickOpd, SX.popTo, SX.cnd, SX.env0, SX.TD.isAgg, SX.TD.isIface, SX.tails, SX.NotAgg, SX.evLookup, SX.evConvH, SX.evPtrEq, SX.isCells, SX.thaw, SX.frz, SX.fixB, SX.rootIx, SX.Froz, SX.frzStep, SX.fork, Go.Value.cells, Go.undef, cfg74, extC, hx, hlt]
      refine ⟨by (unfold SX.Ob; first | trivial | omega | ((try simp only [SX.inK]); (try simp [SX.den, SX.IsU8, SX.AllP, *]); (try omega))), ?_⟩
      intro a3 w3 hr3 _
      have hS : SmE x := hx ▸ (hC.mayN hlt).sm
      have hc : ¬ x.lba + x.n ≤ lba := by
        have := hhi lo (by omega) hlt
        rw [hx] at this
        omega
      refine post_call 75 [.ag (extC x), .v (.int .i64 lba)] hr3 (by first | exact wanted_none rfl | exact wanted_zero (hr3.env.same rfl rfl rfl rfl) rfl (by simp) | exact wanted_zero (hr3.env.same rfl rfl rfl rfl) rfl (by simp [*])) rfl (callable 75 Try.func75) (cmp_ok w3 x lba hS) ?_
      rintro e4 w4 ⟨rfl, hb4⟩
      refine ⟨_, rfl, ?_⟩
      have h4 := hr3.ret hb4 46 (.v (.int .i64 (if x.lba + x.n ≤ lba then -1 else 1))) rfl _ (hr3.all.below hb4) (by simp) rfl
      refine seg cfg74_ok mixed PanicFree.body 1000 [] [(39, true)] h4 (by first | trivial | exact HpRep.nil | assumption) (by kernel_rfl) fun s_ hs_ => ?_
      simp (maxSteps := 10000000) [SX.vc, SX.stop, SX.contS, SX.contB, SX.contW, SX.contR, SX.contD, SX.sxStep, SX.stepPure, SX.stepNew, SX.stepStore, SX.stepKeep, SX.guardIx, SX.evOp, SX.opd, SX.opds, SX.optOpd, SX.look, SX.putS, SX.gobs, SX.AllP, SX.leave, SX.lookC, SX.lookB, SX.lookT, SX.lookN, SX.findK, SX.evBuiltin, SX.ints, SX.foldI, SX.evBin, SX.evInt, SX.evStr, SX.evEq, SX.arith, SX.evLoad, SX.shapeUp, SX.evFieldAddr, SX.evField, SX.evIndexAddr, SX.evIndex, SX.evFill, SX.evBuild, SX.szs, SX.cellsV, SX.evNew, SX.evStore, SX.spliceL, SX.SV.cells, SX.evConv, SX.evSlice, SX.bnd, SX.evNil, SX.evUn, SX.evPick, SX.pickOpd, SX.popTo, SX.cnd, SX.env0, SX.TD.isAgg, SX.TD.isIface, SX.tails, SX.NotAgg, SX.evLookup, SX.evConvH, SX.evPtrEq, SX.isCells, SX.thaw, SX.frz, SX.fixB, SX.rootIx, SX.Froz, SX.frzStep, SX.fork, Go.Value.cells, Go.undef, cfg74, hc]
      refine ⟨by (unfold SX.Ob; first | trivial | omega | ((try simp only [SX.inK]); (try simp [SX.den, SX.IsU8, SX.AllP, *]); (try omega))), ?_⟩
      intro a5 w5 hr5 _
      exact post_retn (end2 hr5 rfl rfl rfl ⟨lo, by simp [den, denL], ⟨by omega, hlo, hhi⟩, hr5.keeps.toBelow⟩).1
    · refine seg cfg74_ok mixed PanicFree.body 1000 [false] [(39, false)] hr2 (by first | trivial | exact HpRep.nil | assumption) (by kernel_rfl) fun s_ hs_ => ?_
      simp (maxSteps := 10000000) [SX.vc, SX.stop, SX.contS, SX.contB, SX.contW, SX.contR, SX.contD, SX.sxStep, SX.stepPure, SX.stepNew, SX.stepStore, SX.stepKeep, SX.guardIx, SX.evOp, SX.opd, SX.opds, SX.optOpd, SX.look, SX.putS, SX.gobs, SX.AllP, SX.leave, SX.lookC, SX.lookB, SX.lookT, SX.lookN, SX.findK, SX.evBuiltin, SX.ints, SX.foldI, SX.evBin, SX.evInt, SX.evStr, SX.evEq, SX.arith, SX.evLoad, SX.shapeUp, SX.evFieldAddr, SX.evField, SX.evIndexAddr, SX.evIndex, SX.evFill, SX.evBuild, SX.szs, SX.cellsV, SX.evNew, SX.evStore, SX.spliceL, SX.SV.cells, SX.evConv, SX.evSlice, SX.bnd, SX.evNil, SX.evUn, SX.evPick, SX.pickOpd, SX.popTo, SX.cnd, SX.env0, SX.TD.isAgg, SX.TD.isIface, SX.tails, SX.NotAgg, SX.evLookup, SX.evConvH, SX.evPtrEq, SX.isCells, SX.thaw, SX.frz, SX.fixB, SX.rootIx, SX.Froz, SX.frzStep, SX.fork, Go.Value.cells, Go.undef, cfg74, hlt]
      refine ⟨by (unfold SX.Ob; first | trivial | omega | ((try simp only [SX.inK]); (try simp [SX.den, SX.IsU8, SX.AllP, *]); (try omega))), ?_⟩
      intro a3 w3 hr3 _
      exact post_retn (end2 hr3 rfl rfl rfl ⟨lo, by simp [den, denL], ⟨by omega, hlo, hhi⟩, hr3.keeps.toBelow⟩).1

def FirstPost (w : World) (L : List Ext) (lba : Int) (e : Ending) (w' : World) : Prop := ∃ i : Nat, e = .returned (.int .i64 i) ∧ FirstI L lba i ∧ Below w.heap.size w w'

set_option maxRecDepth 100000 in
set_option maxHeartbeats 4000000 in
/-- first. -/
theorem first_ok {P : Nat → Prop} (w : World) (v : Value) (L : List Ext) (lba : Int) (hL : RdE P w v L) (hC : Chk L) (hn : L.length ≤ 1000000) : Calls Try.prog 57 (denL [.v v, .v (.int .i64 lba)]).toArray w (FirstPost w L lba) := by
  refine enter (F := frame0 w) Try.func57 rfl [.v v, .v (.int .i64 lba)] [] (by simp [Try.f57]) trivial (keeps0 w) fun a hr => ?_
  refine seg cfg57_ok mixed PanicFree.body 1000 [] [] hr (by first | trivial | exact HpRep.nil | assumption) (by kernel_rfl) fun s_ hs_ => ?_
  simp (maxSteps := 10000000) [SX.vc, SX.stop, SX.contS, SX.contB, SX.contW, SX.contR, SX.contD, SX.sxStep, SX.stepPure, SX.stepNew, SX.stepStore, SX.stepKeep, SX.guardIx, SX.evOp, SX.opd, SX.opds, SX.optOpd, SX.look, SX.putS, SX.gobs, SX.AllP, SX.leave, SX.lookC, SX.lookB, SX.lookT, SX.lookN, SX.findK, SX.evBuiltin, SX.ints, SX.foldI, SX.evBin, SX.evInt, SX.evStr, SX.evEq, SX.arith, SX.evLoad, SX.shapeUp, SX.evFieldAddr, SX.evField, SX.evIndexAddr, SX.evIndex, SX.evFill, SX.evBuild, SX.szs, SX.cellsV, SX.evNew, SX.evStore, SX.spliceL, SX.SV.cells, SX.evConv, SX.evSlice, SX.bnd, SX.evNil, SX.evUn, SX.evPick, SX.pickOpd, SX.popTo, SX.cnd, SX.env0, SX.TD.isAgg, SX.TD.isIface, SX.tails, SX.NotAgg, SX.evLookup, SX.evConvH, SX.evPtrEq, SX.isCells, SX.thaw, SX.frz, SX.fixB, SX.rootIx, SX.Froz, SX.frzStep, SX.fork, Go.Value.cells, Go.undef, cfg57, Try.f57]
  refine ⟨by (unfold SX.Ob; first | trivial | omega | ((try simp only [SX.inK]); (try simp [SX.den, SX.IsU8, SX.AllP, *]); (try omega))), ?_⟩
  intro a1 w1 hr1 _
  refine post_call 74 [.v v, .v (.int .i64 lba), .fn (.func 75) [] []] hr1 (by first | exact wanted_none rfl | exact wanted_zero (hr1.env.same rfl rfl rfl rfl) rfl (by simp) | exact wanted_zero (hr1.env.same rfl rfl rfl rfl) rfl (by simp [*])) rfl (callable 74 Try.func74) (bs_ok w1 v L lba (hL.below hr1.keeps.toBelow) hC hn) ?_
  rintro e2 w2 ⟨i, rfl, hi, hb2⟩
  refine ⟨_, rfl, ?_⟩
  have h2 := hr1.ret hb2 10 (.tu [.v (.int .i64 i), .v (.bool false)]) rfl _ (hr1.all.below hb2) (by simp) rfl
  refine seg cfg57_ok mixed PanicFree.body 1000 [] [] h2 (by first | trivial | exact HpRep.nil | assumption) (by kernel_rfl) fun s_ hs_ => ?_
  simp (maxSteps := 10000000) [SX.vc, SX.stop, SX.contS, SX.contB, SX.contW, SX.contR, SX.contD, SX.sxStep, SX.stepPure, SX.stepNew, SX.stepStore, SX.stepKeep, SX.guardIx, SX.evOp, SX.opd, SX.opds, SX.optOpd, SX.look, SX.putS, SX.gobs, SX.AllP, SX.leave, SX.lookC, SX.lookB, SX.lookT, SX.lookN, SX.findK, SX.evBuiltin, SX.ints, SX.foldI, SX.evBin, SX.evInt, SX.evStr, SX.evEq, SX.arith, SX.evLoad, SX.shapeUp, SX.evFieldAddr, SX.evField, SX.evIndexAddr, SX.evIndex, SX.evFill, SX.evBuild, SX.szs, SX.cellsV, SX.evNew, SX.evStore, SX.spliceL, SX.SV.cells, SX.evConv, SX.evSlice, SX.bnd, SX.evNil, SX.evUn, SX.evPick, SX.pickOpd, SX.popTo, SX.cnd, SX.env0, SX.TD.isAgg, SX.TD.isIface, SX.tails, SX.NotAgg, SX.evLookup, SX.evConvH, SX.evPtrEq, SX.isCells, SX.thaw, SX.frz, SX.fixB, SX.rootIx, SX.Froz, SX.frzStep, SX.fork, Go.Value.cells, Go.undef, cfg57]
  refine ⟨by (unfold SX.Ob; first | trivial | omega | ((try simp only [SX.inK]); (try simp [SX.den, SX.IsU8, SX.AllP, *]); (try omega))), ?_⟩
  intro a3 w3 hr3 _
  exact post_retn (end1 hr3 rfl rfl ⟨i, rfl, hi, hr3.keeps.toBelow⟩).1
end Go.Proofs
