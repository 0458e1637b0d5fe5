/- Leases: the document's Check. -/
import Derived.Test.YtnabelpgmcenlaaLA
namespace Go.Proofs
set_option linter.unusedVariables false
set_option linter.unusedSimpArgs false
open Go Go.SX Go.RowKit

/-- A lease that may be, as the document has it. -/
def GoodL (last now prev : Int) (met : List Int) (L : List Lse) (i : Nat) : Prop :=
  (prev < (nth lse0 L i).k ∧ 0 ≤ (nth lse0 L i).h ∧ (nth lse0 L i).h < 8 ∧ 1 ≤ (nth lse0 L i).e ∧ (nth lse0 L i).e ≤ last ∧ now < (nth lse0 L i).u) ∧ (nth lse0 L i).e ∉ met ∧
  ∀ j, j < i → (nth lse0 L j).k < (nth lse0 L i).k ∧ (nth lse0 L j).e ≠ (nth lse0 L i).e

theorem chkL_iff (last now : Int) : ∀ (L : List Lse) (prev : Int) (met : List Int), ChkL last now prev met L ↔ ∀ i, i < L.length → GoodL last now prev met L i
  | [], _, _ => by simp [ChkL]
  | s :: r, prev, met => by
    rw [ChkL, chkL_iff last now r s.k (s.e :: met)]
    constructor
    · rintro ⟨h1, h2⟩ i hi
      cases i with
      | zero => exact ⟨⟨h1.1, h1.2.1, h1.2.2.1, h1.2.2.2.1, h1.2.2.2.2.1, h1.2.2.2.2.2.1⟩, h1.2.2.2.2.2.2, by omega⟩
      | succ i =>
        obtain ⟨g1, g2, g3⟩ := h2 i (by simpa using hi)
        have h0 := h1.1
        have hk : s.k < (nth lse0 r i).k := g1.1
        refine ⟨⟨?_, g1.2⟩, fun h => g2 (List.mem_cons_of_mem _ h), fun j hj => ?_⟩
        · show prev < (nth lse0 r i).k
          omega
        · cases j with
          | zero => exact ⟨hk, fun h => g2 (by rw [show s.e = (nth lse0 r i).e from h]; exact List.mem_cons_self)⟩
          | succ j => exact g3 j (by omega)
    · intro h
      have h0 := h 0 (by simp)
      refine ⟨⟨h0.1.1, h0.1.2.1, h0.1.2.2.1, h0.1.2.2.2.1, h0.1.2.2.2.2.1, h0.1.2.2.2.2.2, h0.2.1⟩, fun i hi => ?_⟩
      obtain ⟨g1, g2, g3⟩ := h (i + 1) (by simpa using hi)
      have g4 := g3 0 (by omega)
      refine ⟨⟨g4.1, g1.2⟩, fun hm => ?_, fun j hj => g3 (j + 1) (by omega)⟩
      rcases List.mem_cons.1 hm with hm | hm
      · exact g4.2 hm.symm
      · exact g2 hm

def RkLoop (w : World) (t : Tab) (v : Value) (c1 : Nat) (m : Nat) (a : Act) (w' : World) : Prop :=
  ∃ k : Nat, m = t.L.length - k ∧ k ≤ t.L.length ∧ (∀ i, i < k → GoodL t.last t.now (-1) [] t.L i) ∧
    RepX (frame0 w) ⟨[(18, 0, .v (.int .i64 k)), (17, 0, .v (.int .i64 t.L.length)), (16, 0, .v v), (1, 0, .ptr 0 c1 0), (2, 0, .v (.int .i64 0))], [(c1, true, .cells (tabC t v) 24)], 0, 0, 78, [], [], []⟩ a w'
def RiLoop (w : World) (t : Tab) (v v2 : Value) (c1 sX k : Nat) (x : Lse) (m : Nat) (a : Act) (w' : World) : Prop :=
  ∃ j : Nat, m = k - j ∧ j ≤ k ∧ (∀ i, i < j → (nth lse0 t.L i).k < x.k ∧ (nth lse0 t.L i).e ≠ x.e) ∧
    RepX (frame0 w) ⟨[(60, 0, .v (.int .i64 j)), (59, 0, .v (.int .i64 k)), (58, 0, .v v2), (4, 0, .ptr 1 sX 0), (18, 0, .v (.int .i64 k)), (17, 0, .v (.int .i64 t.L.length)), (16, 0, .v v), (1, 0, .ptr 0 c1 0), (2, 0, .v (.int .i64 0))], [(c1, true, .cells (tabC t v) 24), (sX, true, .cells (lseC x) 33)], 0, 0, 78, [], [], []⟩ a w'

set_option maxRecDepth 100000 in
set_option maxHeartbeats 16000000 in
/-- The document's Check. -/
theorem rcheck_ok {P : Nat → Prop} (w : World) (v : Value) (t : Tab) (hL : RdL P w v t.L) (hn : t.L.length ≤ 1000000000000000) : Calls Try.prog 11 (denL [.ag (tabC t v)]).toArray w (Ret w (.v (.int .i64 (chkT t)))) := by
  obtain ⟨ad, cp, rfl⟩ := hL.slice
  refine enter (F := frame0 w) Try.func11 rfl [.ag (tabC t (.slice ad t.L.length cp))] [] (by simp [Try.f11]) trivial (keeps0 w) fun a hr => ?_
  by_cases c1 : t.last < 0
  · have hc : chkT t = 1 := if_neg fun h => by have := h.2.1; omega
    refine seg cfg11_ok mixed PanicFree.body 1000 [true] [(10, true)] hr (by first | trivial | exact HpRep.nil | assumption) (by kernel_rfl) fun s_ hs_ => ?_
    simp (maxSteps := 10000000) [SX.vc, SX.stop, SX.contS, SX.contB, SX.contW, SX.contR, SX.contD, SX.sxStep, SX.stepPure, SX.stepNew, SX.stepStore, SX.stepKeep, SX.guardIx, SX.evOp, SX.opd, SX.opds, SX.optOpd, SX.look, SX.putS, SX.gobs, SX.AllP, SX.leave, SX.lookC, SX.lookB, SX.lookT, SX.lookN, SX.findK, SX.evBuiltin, SX.ints, SX.foldI, SX.evBin, SX.evInt, SX.evStr, SX.evEq, SX.arith, SX.evLoad, SX.shapeUp, SX.evFieldAddr, SX.evField, SX.evIndexAddr, SX.evIndex, SX.evFill, SX.evBuild, SX.szs, SX.cellsV, SX.evNew, SX.evStore, SX.spliceL, SX.SV.cells, SX.evConv, SX.evSlice, SX.bnd, SX.evNil, SX.evUn, SX.evPick, SX.pickOpd, SX.popTo, SX.cnd, SX.env0, SX.TD.isAgg, SX.TD.isIface, SX.tails, SX.NotAgg, SX.evLookup, SX.evConvH, SX.evPtrEq, SX.isCells, SX.thaw, SX.frz, SX.fixB, SX.rootIx, SX.Froz, SX.frzStep, SX.fork, Go.Value.cells, Go.undef, cfg11, Try.f11, tabC, c1]
    refine ⟨by (unfold SX.Ob; first | trivial | omega | ((try simp only [SX.inK]); (try simp [SX.den, SX.IsU8, SX.AllP, *]); (try omega))), ?_⟩
    intro a1 w1 hr1 _
    exact post_retn (end1 hr1 rfl rfl ⟨by rw [hc], hr1.keeps.toBelow⟩).1
  by_cases c2 : t.now < 0
  · have hc : chkT t = 1 := if_neg fun h => by have := h.2.2; omega
    refine seg cfg11_ok mixed PanicFree.body 1000 [true] [(10, false)] hr (by first | trivial | exact HpRep.nil | assumption) (by kernel_rfl) fun s_ hs_ => ?_
    simp (maxSteps := 10000000) [SX.vc, SX.stop, SX.contS, SX.contB, SX.contW, SX.contR, SX.contD, SX.sxStep, SX.stepPure, SX.stepNew, SX.stepStore, SX.stepKeep, SX.guardIx, SX.evOp, SX.opd, SX.opds, SX.optOpd, SX.look, SX.putS, SX.gobs, SX.AllP, SX.leave, SX.lookC, SX.lookB, SX.lookT, SX.lookN, SX.findK, SX.evBuiltin, SX.ints, SX.foldI, SX.evBin, SX.evInt, SX.evStr, SX.evEq, SX.arith, SX.evLoad, SX.shapeUp, SX.evFieldAddr, SX.evField, SX.evIndexAddr, SX.evIndex, SX.evFill, SX.evBuild, SX.szs, SX.cellsV, SX.evNew, SX.evStore, SX.spliceL, SX.SV.cells, SX.evConv, SX.evSlice, SX.bnd, SX.evNil, SX.evUn, SX.evPick, SX.pickOpd, SX.popTo, SX.cnd, SX.env0, SX.TD.isAgg, SX.TD.isIface, SX.tails, SX.NotAgg, SX.evLookup, SX.evConvH, SX.evPtrEq, SX.isCells, SX.thaw, SX.frz, SX.fixB, SX.rootIx, SX.Froz, SX.frzStep, SX.fork, Go.Value.cells, Go.undef, cfg11, Try.f11, tabC, c1, c2]
    refine ⟨by (unfold SX.Ob; first | trivial | omega | ((try simp only [SX.inK]); (try simp [SX.den, SX.IsU8, SX.AllP, *]); (try omega))), ?_⟩
    intro a1 w1 hr1 _
    exact post_retn (end1 hr1 rfl rfl ⟨by rw [hc], hr1.keeps.toBelow⟩).1
  refine seg cfg11_ok mixed PanicFree.body 1000 [false] [(10, false)] hr (by first | trivial | exact HpRep.nil | assumption) (by kernel_rfl) fun s1 hs1 => ?_
  simp (maxSteps := 10000000) [SX.vc, SX.stop, SX.contS, SX.contB, SX.contW, SX.contR, SX.contD, SX.sxStep, SX.stepPure, SX.stepNew, SX.stepStore, SX.stepKeep, SX.guardIx, SX.evOp, SX.opd, SX.opds, SX.optOpd, SX.look, SX.putS, SX.gobs, SX.AllP, SX.leave, SX.lookC, SX.lookB, SX.lookT, SX.lookN, SX.findK, SX.evBuiltin, SX.ints, SX.foldI, SX.evBin, SX.evInt, SX.evStr, SX.evEq, SX.arith, SX.evLoad, SX.shapeUp, SX.evFieldAddr, SX.evField, SX.evIndexAddr, SX.evIndex, SX.evFill, SX.evBuild, SX.szs, SX.cellsV, SX.evNew, SX.evStore, SX.spliceL, SX.SV.cells, SX.evConv, SX.evSlice, SX.bnd, SX.evNil, SX.evUn, SX.evPick, SX.pickOpd, SX.popTo, SX.cnd, SX.env0, SX.TD.isAgg, SX.TD.isIface, SX.tails, SX.NotAgg, SX.evLookup, SX.evConvH, SX.evPtrEq, SX.isCells, SX.thaw, SX.frz, SX.fixB, SX.rootIx, SX.Froz, SX.frzStep, SX.fork, Go.Value.cells, Go.undef, cfg11, Try.f11, tabC, c1, c2]
  refine ⟨by (unfold SX.Ob; first | trivial | omega | ((try simp only [SX.inK]); (try simp [SX.den, SX.IsU8, SX.AllP, *]); (try omega))), ?_⟩
  intro a1 w1 hr1 _
  have hcap := hL.cap rfl
  refine post_loop (RkLoop w t (.slice ad t.L.length cp) s1) t.L.length ⟨0, rfl, by omega, by omega, hr1.re (by simp [envTo, SX.look, den]) hr1.all rfl rfl⟩ ?_
  rintro m a2 w2 ⟨k, rfl, hk, hgood, hr2⟩
  have hA2 := hr2.all
  by_cases hlt : k < t.L.length
  · obtain ⟨b, o0, cap, u, fz, hP, hv, hrep⟩ := hL.opn hlt
    cases hv
    have hbw := SO.rep_lt hrep
    have hrep2 := SO.rep_same hrep (hr2.keeps.toBelow.block _ hbw)
    obtain ⟨x, hx⟩ : ∃ x, nth lse0 t.L k = x := ⟨_, rfl⟩
    have hbad : ¬ GoodL t.last t.now (-1) [] t.L k → chkT t = 1 := fun h => if_neg fun hc => h ((chkL_iff _ _ _ _ _).1 hc.1 k hlt)
    unfold GoodL at hbad
    rw [hx] at hbad
    have h2 := (hr2.top 16 (.sl 1 b o0 0 t.L.length cp 4) rfl (by simp [den])).see [(s1, true, .cells [.v (.int .i64 t.last), .v (.int .i64 t.now), .sl 1 b o0 0 t.L.length cp 4] 24), (b, false, .arr o0 t.L.length (fun j => lseC (nth lse0 t.L j)) 4 u fz)] ⟨⟨by simpa [SO.rep, tabC, denL, den] using hA2.1.1, hA2.1.2.1, by simp; omega⟩, HpAll.one hrep2⟩
    by_cases d1 : x.k < 0
    · refine seg cfg11_ok mixed PanicFree.body 1000 [true, true] [(26, true), (31, true), (36, true), (41, true), (48, true)] h2 (by first | trivial | exact HpRep.nil | assumption) (by kernel_rfl) fun s_ hs_ => ?_
      simp (maxSteps := 10000000) [SX.vc, SX.stop, SX.contS, SX.contB, SX.contW, SX.contR, SX.contD, SX.sxStep, SX.stepPure, SX.stepNew, SX.stepStore, SX.stepKeep, SX.guardIx, SX.evOp, SX.opd, SX.opds, SX.optOpd, SX.look, SX.putS, SX.gobs, SX.AllP, SX.leave, SX.lookC, SX.lookB, SX.lookT, SX.lookN, SX.findK, SX.evBuiltin, SX.ints, SX.foldI, SX.evBin, SX.evInt, SX.evStr, SX.evEq, SX.arith, SX.evLoad, SX.shapeUp, SX.evFieldAddr, SX.evField, SX.evIndexAddr, SX.evIndex, SX.evFill, SX.evBuild, SX.szs, SX.cellsV, SX.evNew, SX.evStore, SX.spliceL, SX.SV.cells, SX.evConv, SX.evSlice, SX.bnd, SX.evNil, SX.evUn, SX.evPick, SX.pickOpd, SX.popTo, SX.cnd, SX.env0, SX.TD.isAgg, SX.TD.isIface, SX.tails, SX.NotAgg, SX.evLookup, SX.evConvH, SX.evPtrEq, SX.isCells, SX.thaw, SX.frz, SX.fixB, SX.rootIx, SX.Froz, SX.frzStep, SX.fork, Go.Value.cells, Go.undef, cfg11, tabC, lseC, hx, d1]
      refine ⟨by (unfold SX.Ob; first | trivial | omega | ((try simp only [SX.inK]); (try simp [SX.den, SX.IsU8, SX.AllP, *]); (try omega))), ?_⟩
      intro a3 w3 hr3 _
      exact post_retn (end1 hr3 rfl rfl ⟨by rw [hbad fun h => by have := h.1.1; omega], hr3.keeps.toBelow⟩).1
    by_cases d2 : x.h < 0
    · refine seg cfg11_ok mixed PanicFree.body 1000 [true, true] [(26, false), (31, true), (36, true), (41, true), (48, true)] h2 (by first | trivial | exact HpRep.nil | assumption) (by kernel_rfl) fun s_ hs_ => ?_
      simp (maxSteps := 10000000) [SX.vc, SX.stop, SX.contS, SX.contB, SX.contW, SX.contR, SX.contD, SX.sxStep, SX.stepPure, SX.stepNew, SX.stepStore, SX.stepKeep, SX.guardIx, SX.evOp, SX.opd, SX.opds, SX.optOpd, SX.look, SX.putS, SX.gobs, SX.AllP, SX.leave, SX.lookC, SX.lookB, SX.lookT, SX.lookN, SX.findK, SX.evBuiltin, SX.ints, SX.foldI, SX.evBin, SX.evInt, SX.evStr, SX.evEq, SX.arith, SX.evLoad, SX.shapeUp, SX.evFieldAddr, SX.evField, SX.evIndexAddr, SX.evIndex, SX.evFill, SX.evBuild, SX.szs, SX.cellsV, SX.evNew, SX.evStore, SX.spliceL, SX.SV.cells, SX.evConv, SX.evSlice, SX.bnd, SX.evNil, SX.evUn, SX.evPick, SX.pickOpd, SX.popTo, SX.cnd, SX.env0, SX.TD.isAgg, SX.TD.isIface, SX.tails, SX.NotAgg, SX.evLookup, SX.evConvH, SX.evPtrEq, SX.isCells, SX.thaw, SX.frz, SX.fixB, SX.rootIx, SX.Froz, SX.frzStep, SX.fork, Go.Value.cells, Go.undef, cfg11, tabC, lseC, hx, d1, d2]
      refine ⟨by (unfold SX.Ob; first | trivial | omega | ((try simp only [SX.inK]); (try simp [SX.den, SX.IsU8, SX.AllP, *]); (try omega))), ?_⟩
      intro a3 w3 hr3 _
      exact post_retn (end1 hr3 rfl rfl ⟨by rw [hbad fun h => by have := h.1.2.1; omega], hr3.keeps.toBelow⟩).1
    by_cases d3 : 8 ≤ x.h
    · refine seg cfg11_ok mixed PanicFree.body 1000 [true, true] [(26, false), (31, false), (36, true), (41, true), (48, true)] h2 (by first | trivial | exact HpRep.nil | assumption) (by kernel_rfl) fun s_ hs_ => ?_
      simp (maxSteps := 10000000) [SX.vc, SX.stop, SX.contS, SX.contB, SX.contW, SX.contR, SX.contD, SX.sxStep, SX.stepPure, SX.stepNew, SX.stepStore, SX.stepKeep, SX.guardIx, SX.evOp, SX.opd, SX.opds, SX.optOpd, SX.look, SX.putS, SX.gobs, SX.AllP, SX.leave, SX.lookC, SX.lookB, SX.lookT, SX.lookN, SX.findK, SX.evBuiltin, SX.ints, SX.foldI, SX.evBin, SX.evInt, SX.evStr, SX.evEq, SX.arith, SX.evLoad, SX.shapeUp, SX.evFieldAddr, SX.evField, SX.evIndexAddr, SX.evIndex, SX.evFill, SX.evBuild, SX.szs, SX.cellsV, SX.evNew, SX.evStore, SX.spliceL, SX.SV.cells, SX.evConv, SX.evSlice, SX.bnd, SX.evNil, SX.evUn, SX.evPick, SX.pickOpd, SX.popTo, SX.cnd, SX.env0, SX.TD.isAgg, SX.TD.isIface, SX.tails, SX.NotAgg, SX.evLookup, SX.evConvH, SX.evPtrEq, SX.isCells, SX.thaw, SX.frz, SX.fixB, SX.rootIx, SX.Froz, SX.frzStep, SX.fork, Go.Value.cells, Go.undef, cfg11, tabC, lseC, hx, d1, d2, d3]
      refine ⟨by (unfold SX.Ob; first | trivial | omega | ((try simp only [SX.inK]); (try simp [SX.den, SX.IsU8, SX.AllP, *]); (try omega))), ?_⟩
      intro a3 w3 hr3 _
      exact post_retn (end1 hr3 rfl rfl ⟨by rw [hbad fun h => by have := h.1.2.2.1; omega], hr3.keeps.toBelow⟩).1
    by_cases d4 : x.e < 1
    · refine seg cfg11_ok mixed PanicFree.body 1000 [true, true] [(26, false), (31, false), (36, false), (41, true), (48, true)] h2 (by first | trivial | exact HpRep.nil | assumption) (by kernel_rfl) fun s_ hs_ => ?_
      simp (maxSteps := 10000000) [SX.vc, SX.stop, SX.contS, SX.contB, SX.contW, SX.contR, SX.contD, SX.sxStep, SX.stepPure, SX.stepNew, SX.stepStore, SX.stepKeep, SX.guardIx, SX.evOp, SX.opd, SX.opds, SX.optOpd, SX.look, SX.putS, SX.gobs, SX.AllP, SX.leave, SX.lookC, SX.lookB, SX.lookT, SX.lookN, SX.findK, SX.evBuiltin, SX.ints, SX.foldI, SX.evBin, SX.evInt, SX.evStr, SX.evEq, SX.arith, SX.evLoad, SX.shapeUp, SX.evFieldAddr, SX.evField, SX.evIndexAddr, SX.evIndex, SX.evFill, SX.evBuild, SX.szs, SX.cellsV, SX.evNew, SX.evStore, SX.spliceL, SX.SV.cells, SX.evConv, SX.evSlice, SX.bnd, SX.evNil, SX.evUn, SX.evPick, SX.pickOpd, SX.popTo, SX.cnd, SX.env0, SX.TD.isAgg, SX.TD.isIface, SX.tails, SX.NotAgg, SX.evLookup, SX.evConvH, SX.evPtrEq, SX.isCells, SX.thaw, SX.frz, SX.fixB, SX.rootIx, SX.Froz, SX.frzStep, SX.fork, Go.Value.cells, Go.undef, cfg11, tabC, lseC, hx, d1, d2, d3, d4]
      refine ⟨by (unfold SX.Ob; first | trivial | omega | ((try simp only [SX.inK]); (try simp [SX.den, SX.IsU8, SX.AllP, *]); (try omega))), ?_⟩
      intro a3 w3 hr3 _
      exact post_retn (end1 hr3 rfl rfl ⟨by rw [hbad fun h => by have := h.1.2.2.2.1; omega], hr3.keeps.toBelow⟩).1
    by_cases d5 : t.last < x.e
    · refine seg cfg11_ok mixed PanicFree.body 1000 [true, true] [(26, false), (31, false), (36, false), (41, false), (48, true)] h2 (by first | trivial | exact HpRep.nil | assumption) (by kernel_rfl) fun s_ hs_ => ?_
      simp (maxSteps := 10000000) [SX.vc, SX.stop, SX.contS, SX.contB, SX.contW, SX.contR, SX.contD, SX.sxStep, SX.stepPure, SX.stepNew, SX.stepStore, SX.stepKeep, SX.guardIx, SX.evOp, SX.opd, SX.opds, SX.optOpd, SX.look, SX.putS, SX.gobs, SX.AllP, SX.leave, SX.lookC, SX.lookB, SX.lookT, SX.lookN, SX.findK, SX.evBuiltin, SX.ints, SX.foldI, SX.evBin, SX.evInt, SX.evStr, SX.evEq, SX.arith, SX.evLoad, SX.shapeUp, SX.evFieldAddr, SX.evField, SX.evIndexAddr, SX.evIndex, SX.evFill, SX.evBuild, SX.szs, SX.cellsV, SX.evNew, SX.evStore, SX.spliceL, SX.SV.cells, SX.evConv, SX.evSlice, SX.bnd, SX.evNil, SX.evUn, SX.evPick, SX.pickOpd, SX.popTo, SX.cnd, SX.env0, SX.TD.isAgg, SX.TD.isIface, SX.tails, SX.NotAgg, SX.evLookup, SX.evConvH, SX.evPtrEq, SX.isCells, SX.thaw, SX.frz, SX.fixB, SX.rootIx, SX.Froz, SX.frzStep, SX.fork, Go.Value.cells, Go.undef, cfg11, tabC, lseC, hx, d1, d2, d3, d4, d5]
      refine ⟨by (unfold SX.Ob; first | trivial | omega | ((try simp only [SX.inK]); (try simp [SX.den, SX.IsU8, SX.AllP, *]); (try omega))), ?_⟩
      intro a3 w3 hr3 _
      exact post_retn (end1 hr3 rfl rfl ⟨by rw [hbad fun h => by have := h.1.2.2.2.2.1; omega], hr3.keeps.toBelow⟩).1
    by_cases d6 : x.u ≤ t.now
    · refine seg cfg11_ok mixed PanicFree.body 1000 [true, true] [(26, false), (31, false), (36, false), (41, false), (48, false)] h2 (by first | trivial | exact HpRep.nil | assumption) (by kernel_rfl) fun s_ hs_ => ?_
      simp (maxSteps := 10000000) [SX.vc, SX.stop, SX.contS, SX.contB, SX.contW, SX.contR, SX.contD, SX.sxStep, SX.stepPure, SX.stepNew, SX.stepStore, SX.stepKeep, SX.guardIx, SX.evOp, SX.opd, SX.opds, SX.optOpd, SX.look, SX.putS, SX.gobs, SX.AllP, SX.leave, SX.lookC, SX.lookB, SX.lookT, SX.lookN, SX.findK, SX.evBuiltin, SX.ints, SX.foldI, SX.evBin, SX.evInt, SX.evStr, SX.evEq, SX.arith, SX.evLoad, SX.shapeUp, SX.evFieldAddr, SX.evField, SX.evIndexAddr, SX.evIndex, SX.evFill, SX.evBuild, SX.szs, SX.cellsV, SX.evNew, SX.evStore, SX.spliceL, SX.SV.cells, SX.evConv, SX.evSlice, SX.bnd, SX.evNil, SX.evUn, SX.evPick, SX.pickOpd, SX.popTo, SX.cnd, SX.env0, SX.TD.isAgg, SX.TD.isIface, SX.tails, SX.NotAgg, SX.evLookup, SX.evConvH, SX.evPtrEq, SX.isCells, SX.thaw, SX.frz, SX.fixB, SX.rootIx, SX.Froz, SX.frzStep, SX.fork, Go.Value.cells, Go.undef, cfg11, tabC, lseC, hx, d1, d2, d3, d4, d5, d6]
      refine ⟨by (unfold SX.Ob; first | trivial | omega | ((try simp only [SX.inK]); (try simp [SX.den, SX.IsU8, SX.AllP, *]); (try omega))), ?_⟩
      intro a3 w3 hr3 _
      exact post_retn (end1 hr3 rfl rfl ⟨by rw [hbad fun h => by have := h.1.2.2.2.2.2; omega], hr3.keeps.toBelow⟩).1
    have hkc : k ≤ cp := by omega
    refine seg cfg11_ok mixed PanicFree.body 1000 [true, false] [(26, false), (31, false), (36, false), (41, false), (48, false)] h2 (by first | trivial | exact HpRep.nil | assumption) (by kernel_rfl) fun sX hsX => ?_
    simp (maxSteps := 10000000) [SX.vc, SX.stop, SX.contS, SX.contB, SX.contW, SX.contR, SX.contD, SX.sxStep, SX.stepPure, SX.stepNew, SX.stepStore, SX.stepKeep, SX.guardIx, SX.evOp, SX.opd, SX.opds, SX.optOpd, SX.look, SX.putS, SX.gobs, SX.AllP, SX.leave, SX.lookC, SX.lookB, SX.lookT, SX.lookN, SX.findK, SX.evBuiltin, SX.ints, SX.foldI, SX.evBin, SX.evInt, SX.evStr, SX.evEq, SX.arith, SX.evLoad, SX.shapeUp, SX.evFieldAddr, SX.evField, SX.evIndexAddr, SX.evIndex, SX.evFill, SX.evBuild, SX.szs, SX.cellsV, SX.evNew, SX.evStore, SX.spliceL, SX.SV.cells, SX.evConv, SX.evSlice, SX.bnd, SX.evNil, SX.evUn, SX.evPick, SX.pickOpd, SX.popTo, SX.cnd, SX.env0, SX.TD.isAgg, SX.TD.isIface, SX.tails, SX.NotAgg, SX.evLookup, SX.evConvH, SX.evPtrEq, SX.isCells, SX.thaw, SX.frz, SX.fixB, SX.rootIx, SX.Froz, SX.frzStep, SX.fork, Go.Value.cells, Go.undef, cfg11, tabC, lseC, hx, d1, d2, d3, d4, d5, d6]
    refine ⟨by (unfold SX.Ob; first | trivial | omega | ((try simp only [SX.inK]); (try simp [SX.den, SX.IsU8, SX.AllP, *]); (try omega))), ?_⟩
    intro a3 w3 hr3 _
    have hA3 := hr3.all
    have h1X : s1 ≠ sX := hA3.1.2.2 (sX, true, _) (List.mem_cons_of_mem _ List.mem_cons_self)
    have h4 := (hr3.top 4 (.ptr 1 sX 0) rfl (by simp [den])).see [(s1, true, .cells (tabC t (.slice (some ⟨b, o0, none⟩) t.L.length cp)) 24), (sX, true, .cells (lseC x) 33)] ⟨⟨by simpa [SO.rep, tabC, denL, den] using hA3.1.1, hA3.1.2.1, by simp; exact h1X⟩, ⟨hA3.2.2.1.1, hA3.2.2.1.2.1, by simp⟩, trivial⟩
    have hbs : sX ≠ b := fun h => hA3.2.1.2.2 (sX, true, _) (List.mem_cons_self) h.symm
    refine post_loop (RiLoop w t (.slice (some ⟨b, o0, none⟩) t.L.length cp) (.slice (some ⟨b, o0, none⟩) k cp) s1 sX k x) k ⟨0, rfl, by omega, by omega, h4.re (by simp [envTo, SX.look, den]) h4.all rfl rfl⟩ ?_
    rintro m a5 w5 ⟨j, rfl, hj, hin, hr5⟩
    have hA5 := hr5.all
    by_cases hltj : j < k
    · have hrep5 := SO.rep_same hrep (hr5.keeps.toBelow.block _ hbw)
      obtain ⟨y, hy⟩ : ∃ y, nth lse0 t.L j = y := ⟨_, rfl⟩
      have h6 := (hr5.top 58 (.sl 2 b o0 0 k cp 4) rfl (by simp [den])).see [(s1, true, .cells (tabC t (.slice (some ⟨b, o0, none⟩) t.L.length cp)) 24), (sX, true, .cells (lseC x) 33), (b, false, .arr o0 t.L.length (fun j => lseC (nth lse0 t.L j)) 4 u fz)] ⟨⟨hA5.1.1, hA5.1.2.1, fun e he => by
        simp only [List.mem_cons, List.not_mem_nil, or_false] at he
        rcases he with rfl | rfl
        · exact hA5.1.2.2 _ (by simp)
        · show s1 ≠ b; omega⟩, ⟨hA5.2.1.1, hA5.2.1.2.1, fun e he => by simp at he; subst he; exact hbs⟩, HpAll.one hrep5⟩
      have hjL : j < t.L.length := by omega
      by_cases e1 : x.k ≤ y.k
      · refine seg cfg11_ok mixed PanicFree.body 1000 [true, true] [(69, true)] h6 (by first | trivial | exact HpRep.nil | assumption) (by kernel_rfl) fun s_ hs_ => ?_
        simp (maxSteps := 10000000) [SX.vc, SX.stop, SX.contS, SX.contB, SX.contW, SX.contR, SX.contD, SX.sxStep, SX.stepPure, SX.stepNew, SX.stepStore, SX.stepKeep, SX.guardIx, SX.evOp, SX.opd, SX.opds, SX.optOpd, SX.look, SX.putS, SX.gobs, SX.AllP, SX.leave, SX.lookC, SX.lookB, SX.lookT, SX.lookN, SX.findK, SX.evBuiltin, SX.ints, SX.foldI, SX.evBin, SX.evInt, SX.evStr, SX.evEq, SX.arith, SX.evLoad, SX.shapeUp, SX.evFieldAddr, SX.evField, SX.evIndexAddr, SX.evIndex, SX.evFill, SX.evBuild, SX.szs, SX.cellsV, SX.evNew, SX.evStore, SX.spliceL, SX.SV.cells, SX.evConv, SX.evSlice, SX.bnd, SX.evNil, SX.evUn, SX.evPick, SX.pickOpd, SX.popTo, SX.cnd, SX.env0, SX.TD.isAgg, SX.TD.isIface, SX.tails, SX.NotAgg, SX.evLookup, SX.evConvH, SX.evPtrEq, SX.isCells, SX.thaw, SX.frz, SX.fixB, SX.rootIx, SX.Froz, SX.frzStep, SX.fork, Go.Value.cells, Go.undef, cfg11, tabC, lseC, hy, e1]
        refine ⟨by (unfold SX.Ob; first | trivial | omega | ((try simp only [SX.inK]); (try simp [SX.den, SX.IsU8, SX.AllP, *]); (try omega))), ?_⟩
        intro a7 w7 hr7 _
        exact post_retn (end1 hr7 rfl rfl ⟨by rw [hbad fun h => by have := (h.2.2 j hltj).1; rw [hy] at this; omega], hr7.keeps.toBelow⟩).1
      by_cases e2 : y.e = x.e
      · refine seg cfg11_ok mixed PanicFree.body 1000 [true, true] [(69, false)] h6 (by first | trivial | exact HpRep.nil | assumption) (by kernel_rfl) fun s_ hs_ => ?_
        simp (maxSteps := 10000000) [SX.vc, SX.stop, SX.contS, SX.contB, SX.contW, SX.contR, SX.contD, SX.sxStep, SX.stepPure, SX.stepNew, SX.stepStore, SX.stepKeep, SX.guardIx, SX.evOp, SX.opd, SX.opds, SX.optOpd, SX.look, SX.putS, SX.gobs, SX.AllP, SX.leave, SX.lookC, SX.lookB, SX.lookT, SX.lookN, SX.findK, SX.evBuiltin, SX.ints, SX.foldI, SX.evBin, SX.evInt, SX.evStr, SX.evEq, SX.arith, SX.evLoad, SX.shapeUp, SX.evFieldAddr, SX.evField, SX.evIndexAddr, SX.evIndex, SX.evFill, SX.evBuild, SX.szs, SX.cellsV, SX.evNew, SX.evStore, SX.spliceL, SX.SV.cells, SX.evConv, SX.evSlice, SX.bnd, SX.evNil, SX.evUn, SX.evPick, SX.pickOpd, SX.popTo, SX.cnd, SX.env0, SX.TD.isAgg, SX.TD.isIface, SX.tails, SX.NotAgg, SX.evLookup, SX.evConvH, SX.evPtrEq, SX.isCells, SX.thaw, SX.frz, SX.fixB, SX.rootIx, SX.Froz, SX.frzStep, SX.fork, Go.Value.cells, Go.undef, cfg11, tabC, lseC, hy, e1, e2]
        refine ⟨by (unfold SX.Ob; first | trivial | omega | ((try simp only [SX.inK]); (try simp [SX.den, SX.IsU8, SX.AllP, *]); (try omega))), ?_⟩
        intro a7 w7 hr7 _
        exact post_retn (end1 hr7 rfl rfl ⟨by rw [hbad fun h => by have := (h.2.2 j hltj).2; rw [hy] at this; exact this e2], hr7.keeps.toBelow⟩).1
      · refine seg cfg11_ok mixed PanicFree.body 1000 [true, false] [(69, false)] h6 (by first | trivial | exact HpRep.nil | assumption) (by kernel_rfl) fun s_ hs_ => ?_
        simp (maxSteps := 10000000) [SX.vc, SX.stop, SX.contS, SX.contB, SX.contW, SX.contR, SX.contD, SX.sxStep, SX.stepPure, SX.stepNew, SX.stepStore, SX.stepKeep, SX.guardIx, SX.evOp, SX.opd, SX.opds, SX.optOpd, SX.look, SX.putS, SX.gobs, SX.AllP, SX.leave, SX.lookC, SX.lookB, SX.lookT, SX.lookN, SX.findK, SX.evBuiltin, SX.ints, SX.foldI, SX.evBin, SX.evInt, SX.evStr, SX.evEq, SX.arith, SX.evLoad, SX.shapeUp, SX.evFieldAddr, SX.evField, SX.evIndexAddr, SX.evIndex, SX.evFill, SX.evBuild, SX.szs, SX.cellsV, SX.evNew, SX.evStore, SX.spliceL, SX.SV.cells, SX.evConv, SX.evSlice, SX.bnd, SX.evNil, SX.evUn, SX.evPick, SX.pickOpd, SX.popTo, SX.cnd, SX.env0, SX.TD.isAgg, SX.TD.isIface, SX.tails, SX.NotAgg, SX.evLookup, SX.evConvH, SX.evPtrEq, SX.isCells, SX.thaw, SX.frz, SX.fixB, SX.rootIx, SX.Froz, SX.frzStep, SX.fork, Go.Value.cells, Go.undef, cfg11, tabC, lseC, hy, e1, e2]
        refine ⟨by (unfold SX.Ob; first | trivial | omega | ((try simp only [SX.inK]); (try simp [SX.den, SX.IsU8, SX.AllP, *]); (try omega))), ?_⟩
        intro a7 w7 hr7 _
        exact post_rnd (k - (j + 1)) (by omega) ⟨j + 1, rfl, hltj, fun i hi => (by
          rcases Nat.lt_or_ge i j with h | h
          · exact hin i h
          · obtain rfl : i = j := by omega
            rw [hy]; exact ⟨by omega, e2⟩), hr7.re (by simp [envTo, SX.look, den]) (hr7.all.take 2) rfl rfl⟩
    · obtain rfl : j = k := by omega
      refine seg cfg11_ok mixed PanicFree.body 1000 [false] [] hr5 (by first | trivial | exact HpRep.nil | assumption) (by kernel_rfl) fun s_ hs_ => ?_
      simp (maxSteps := 10000000) [SX.vc, SX.stop, SX.contS, SX.contB, SX.contW, SX.contR, SX.contD, SX.sxStep, SX.stepPure, SX.stepNew, SX.stepStore, SX.stepKeep, SX.guardIx, SX.evOp, SX.opd, SX.opds, SX.optOpd, SX.look, SX.putS, SX.gobs, SX.AllP, SX.leave, SX.lookC, SX.lookB, SX.lookT, SX.lookN, SX.findK, SX.evBuiltin, SX.ints, SX.foldI, SX.evBin, SX.evInt, SX.evStr, SX.evEq, SX.arith, SX.evLoad, SX.shapeUp, SX.evFieldAddr, SX.evField, SX.evIndexAddr, SX.evIndex, SX.evFill, SX.evBuild, SX.szs, SX.cellsV, SX.evNew, SX.evStore, SX.spliceL, SX.SV.cells, SX.evConv, SX.evSlice, SX.bnd, SX.evNil, SX.evUn, SX.evPick, SX.pickOpd, SX.popTo, SX.cnd, SX.env0, SX.TD.isAgg, SX.TD.isIface, SX.tails, SX.NotAgg, SX.evLookup, SX.evConvH, SX.evPtrEq, SX.isCells, SX.thaw, SX.frz, SX.fixB, SX.rootIx, SX.Froz, SX.frzStep, SX.fork, Go.Value.cells, Go.undef, cfg11, tabC, lseC]
      refine ⟨by (unfold SX.Ob; first | trivial | omega | ((try simp only [SX.inK]); (try simp [SX.den, SX.IsU8, SX.AllP, *]); (try omega))), ?_⟩
      intro a7 w7 hr7 _
      exact post_rnd (t.L.length - (j + 1)) (by omega) ⟨j + 1, rfl, hlt, fun i hi => (by
        rcases Nat.lt_or_ge i j with h | h
        · exact hgood i h
        · obtain rfl : i = j := by omega
          unfold GoodL
          rw [hx]
          exact ⟨⟨by omega, by omega, by omega, by omega, by omega, by omega⟩, by simp, hin⟩), hr7.re (by simp [envTo, SX.look, den]) (hr7.all.take 1) rfl rfl⟩
  · obtain rfl : k = t.L.length := by omega
    have hc : chkT t = 0 := if_pos ⟨(chkL_iff _ _ _ _ _).2 hgood, by omega, by omega⟩
    refine seg cfg11_ok mixed PanicFree.body 1000 [false] [] hr2 (by first | trivial | exact HpRep.nil | assumption) (by kernel_rfl) fun s_ hs_ => ?_
    simp (maxSteps := 10000000) [SX.vc, SX.stop, SX.contS, SX.contB, SX.contW, SX.contR, SX.contD, SX.sxStep, SX.stepPure, SX.stepNew, SX.stepStore, SX.stepKeep, SX.guardIx, SX.evOp, SX.opd, SX.opds, SX.optOpd, SX.look, SX.putS, SX.gobs, SX.AllP, SX.leave, SX.lookC, SX.lookB, SX.lookT, SX.lookN, SX.findK, SX.evBuiltin, SX.ints, SX.foldI, SX.evBin, SX.evInt, SX.evStr, SX.evEq, SX.arith, SX.evLoad, SX.shapeUp, SX.evFieldAddr, SX.evField, SX.evIndexAddr, SX.evIndex, SX.evFill, SX.evBuild, SX.szs, SX.cellsV, SX.evNew, SX.evStore, SX.spliceL, SX.SV.cells, SX.evConv, SX.evSlice, SX.bnd, SX.evNil, SX.evUn, SX.evPick, SX.pickOpd, SX.popTo, SX.cnd, SX.env0, SX.TD.isAgg, SX.TD.isIface, SX.tails, SX.NotAgg, SX.evLookup, SX.evConvH, SX.evPtrEq, SX.isCells, SX.thaw, SX.frz, SX.fixB, SX.rootIx, SX.Froz, SX.frzStep, SX.fork, Go.Value.cells, Go.undef, cfg11, tabC]
    refine ⟨by (unfold SX.Ob; first | trivial | omega | ((try simp only [SX.inK]); (try simp [SX.den, SX.IsU8, SX.AllP, *]); (try omega))), ?_⟩
    intro a3 w3 hr3 _
    exact post_retn (end1 hr3 rfl rfl ⟨by rw [hc], hr3.keeps.toBelow⟩).1
end Go.Proofs
