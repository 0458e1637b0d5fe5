/- Leases: the document's Tick, Revoke and Grant. -/
import Derived.Test.YtnabelpgmcenlaaMA
import Derived.Test.YtnabelpgmcenlaaLL
import Derived.Test.YtnabelpgmcenlaaLP
import Derived.Test.YtnabelpgmcenlaaLH
namespace Go.Proofs
set_option linter.unusedVariables false
set_option linter.unusedSimpArgs false
open Go Go.SX Go.RowKit

def keptT (n : Int) (x : Lse) : Bool := decide (n < x.u)
def overT (n : Int) (x : Lse) : Bool := decide (x.u ≤ n)
def RTickLoop (w : World) (v : Value) (t : Tab) (n : Int) (c4 c7 : Nat) (m : Nat) (a : Act) (w' : World) : Prop :=
  ∃ (k : Nat) (vr vo : Value) (PA PB : Nat → Prop), m = t.L.length - k ∧ k ≤ t.L.length ∧ OwL PA w' vr ((t.L.take k).filter (keptT n)) ∧ OwL PB w' vo ((t.L.take k).filter (overT n)) ∧ (∀ x, PA x → ¬ PB x) ∧ (∀ x, PA x → w.heap.size ≤ x ∧ x < w'.heap.size ∧ x ≠ c4 ∧ x ≠ c7) ∧ (∀ x, PB x → w.heap.size ≤ x ∧ x < w'.heap.size ∧ x ≠ c4 ∧ x ≠ c7) ∧ RepX (frame0 w) ⟨[(28, 0, .v (.int .i64 k)), (27, 0, .v (.int .i64 t.L.length)), (26, 0, .v v), (1, 0, .v (.int .i64 n)), (8, 0, .v vo), (7, 0, .ptr 1 c7 0), (4, 0, .ptr 0 c4 0)], [(c4, true, .cells [.v (.int .i64 0), .v (.int .i64 0), .v (.slice none 0 0)] 24), (c7, true, .cells [.v (.int .i64 t.last), .v (.int .i64 n), .v vr] 24)], 0, 0, 49, [], [], []⟩ a w'

set_option maxRecDepth 100000 in
set_option maxHeartbeats 32000000 in
/-- The document's Tick. -/
theorem rTick_ok {P : Nat → Prop} (w : World) (v : Value) (t : Tab) (n : Int) (hL : RdL P w v t.L) (hn : t.L.length ≤ 100000) : Calls Try.prog 44 (denL [.ag (tabC t v), .v (.int .i64 n)]).toArray w (TickR w t n) := by
  obtain ⟨ad, cp, rfl⟩ := hL.slice
  refine enter (F := frame0 w) Try.func44 rfl [.ag (tabC t (.slice ad t.L.length cp)), .v (.int .i64 n)] [] (by simp [Try.f44]) trivial (keeps0 w) fun a hr => ?_
  refine seg cfg44_ok mixed PanicFree.body 1000 [] [] hr (by first | trivial | exact HpRep.nil | assumption) (by kernel_rfl) fun sA hsA => ?_
  simp (maxSteps := 10000000) [SX.vc, SX.stop, SX.contS, SX.contB, SX.contW, SX.contR, SX.contD, SX.sxStep, SX.stepPure, SX.stepNew, SX.stepStore, SX.stepKeep, SX.guardIx, SX.evOp, SX.opd, SX.opds, SX.optOpd, SX.look, SX.putS, SX.gobs, SX.AllP, SX.leave, SX.lookC, SX.lookB, SX.lookT, SX.lookN, SX.findK, SX.evBuiltin, SX.ints, SX.foldI, SX.evBin, SX.evInt, SX.evStr, SX.evEq, SX.arith, SX.evLoad, SX.shapeUp, SX.evFieldAddr, SX.evField, SX.evIndexAddr, SX.evIndex, SX.evFill, SX.evBuild, SX.szs, SX.cellsV, SX.evNew, SX.evStore, SX.spliceL, SX.SV.cells, SX.evConv, SX.evSlice, SX.bnd, SX.evNil, SX.evUn, SX.evPick, SX.pickOpd, SX.popTo, SX.cnd, SX.env0, SX.TD.isAgg, SX.TD.isIface, SX.tails, SX.NotAgg, SX.evLookup, SX.evConvH, SX.evPtrEq, SX.isCells, SX.thaw, SX.frz, SX.fixB, SX.rootIx, SX.Froz, SX.frzStep, SX.fork, Go.Value.cells, Go.undef, cfg44, Try.f44, tabC]
  refine ⟨by (unfold SX.Ob; first | trivial | omega | ((try simp only [SX.inK]); (try simp [SX.den, SX.IsU8, SX.AllP, *]); (try omega))), ?_⟩
  intro a1 w1 hr1 _
  refine post_call 11 [.ag [.v (.int .i64 t.last), .v (.int .i64 t.now), .v (.slice ad t.L.length cp)]] hr1 (by first | exact wanted_none rfl | exact wanted_zero (hr1.env.same rfl rfl rfl rfl) rfl (by simp) | exact wanted_zero (hr1.env.same rfl rfl rfl rfl) rfl (by simp [*])) rfl (callable 11 Try.func11) (rcheck_ok w1 _ t (hL.below hr1.keeps.toBelow) (by omega)) ?_
  rintro e2 w2 ⟨rfl, hb2⟩
  refine ⟨_, rfl, ?_⟩
  have h2 := hr1.ret hb2 12 (.v (.int .i64 (chkT t))) rfl _ (hr1.all.below hb2) (by simp) rfl
  have bad : ¬ TickOK t n → tickE t n = 1 ∧ tickT t n = tab0 ∧ tickO t n = [] := fun h => ⟨if_neg h, if_neg h, if_neg h⟩
  by_cases hC : ChkT t
  rotate_left
  · have hc : chkT t = 1 := if_neg hC
    obtain ⟨hE, hG, hX⟩ := bad fun h => hC h.1
    refine seg cfg44_ok mixed PanicFree.body 1000 [true] [(14, true)] h2 (by first | trivial | exact HpRep.nil | assumption) (by kernel_rfl) fun s_ hs_ => ?_
    simp (maxSteps := 10000000) [SX.vc, SX.stop, SX.contS, SX.contB, SX.contW, SX.contR, SX.contD, SX.sxStep, SX.stepPure, SX.stepNew, SX.stepStore, SX.stepKeep, SX.guardIx, SX.evOp, SX.opd, SX.opds, SX.optOpd, SX.look, SX.putS, SX.gobs, SX.AllP, SX.leave, SX.lookC, SX.lookB, SX.lookT, SX.lookN, SX.findK, SX.evBuiltin, SX.ints, SX.foldI, SX.evBin, SX.evInt, SX.evStr, SX.evEq, SX.arith, SX.evLoad, SX.shapeUp, SX.evFieldAddr, SX.evField, SX.evIndexAddr, SX.evIndex, SX.evFill, SX.evBuild, SX.szs, SX.cellsV, SX.evNew, SX.evStore, SX.spliceL, SX.SV.cells, SX.evConv, SX.evSlice, SX.bnd, SX.evNil, SX.evUn, SX.evPick, SX.pickOpd, SX.popTo, SX.cnd, SX.env0, SX.TD.isAgg, SX.TD.isIface, SX.tails, SX.NotAgg, SX.evLookup, SX.evConvH, SX.evPtrEq, SX.isCells, SX.thaw, SX.frz, SX.fixB, SX.rootIx, SX.Froz, SX.frzStep, SX.fork, Go.Value.cells, Go.undef, cfg44, hc]
    refine ⟨by (unfold SX.Ob; first | trivial | omega | ((try simp only [SX.inK]); (try simp [SX.den, SX.IsU8, SX.AllP, *]); (try omega))), ?_⟩
    intro a3 w3 hr3 _
    exact post_retn (endCTT hr3 rfl rfl rfl tok24 rfl rfl rfl ⟨.slice none 0 0, .slice none 0 0, by rw [hE, hG]; simp [den, denL, tabC, tab0], by rw [hG]; exact OwS.nil.rd, by rw [hX]; exact OwS.nil.rd, hr3.keeps.toBelow⟩).1
  have hc : chkT t = 0 := if_pos hC
  by_cases hnow : n < t.now
  · obtain ⟨hE, hG, hX⟩ := bad fun h => by have := h.2; omega
    refine seg cfg44_ok mixed PanicFree.body 1000 [true] [(14, false)] h2 (by first | trivial | exact HpRep.nil | assumption) (by kernel_rfl) fun s_ hs_ => ?_
    simp (maxSteps := 10000000) [SX.vc, SX.stop, SX.contS, SX.contB, SX.contW, SX.contR, SX.contD, SX.sxStep, SX.stepPure, SX.stepNew, SX.stepStore, SX.stepKeep, SX.guardIx, SX.evOp, SX.opd, SX.opds, SX.optOpd, SX.look, SX.putS, SX.gobs, SX.AllP, SX.leave, SX.lookC, SX.lookB, SX.lookT, SX.lookN, SX.findK, SX.evBuiltin, SX.ints, SX.foldI, SX.evBin, SX.evInt, SX.evStr, SX.evEq, SX.arith, SX.evLoad, SX.shapeUp, SX.evFieldAddr, SX.evField, SX.evIndexAddr, SX.evIndex, SX.evFill, SX.evBuild, SX.szs, SX.cellsV, SX.evNew, SX.evStore, SX.spliceL, SX.SV.cells, SX.evConv, SX.evSlice, SX.bnd, SX.evNil, SX.evUn, SX.evPick, SX.pickOpd, SX.popTo, SX.cnd, SX.env0, SX.TD.isAgg, SX.TD.isIface, SX.tails, SX.NotAgg, SX.evLookup, SX.evConvH, SX.evPtrEq, SX.isCells, SX.thaw, SX.frz, SX.fixB, SX.rootIx, SX.Froz, SX.frzStep, SX.fork, Go.Value.cells, Go.undef, cfg44, hc, hnow]
    refine ⟨by (unfold SX.Ob; first | trivial | omega | ((try simp only [SX.inK]); (try simp [SX.den, SX.IsU8, SX.AllP, *]); (try omega))), ?_⟩
    intro a3 w3 hr3 _
    exact post_retn (endCTT hr3 rfl rfl rfl tok24 rfl rfl rfl ⟨.slice none 0 0, .slice none 0 0, by rw [hE, hG]; simp [den, denL, tabC, tab0], by rw [hG]; exact OwS.nil.rd, by rw [hX]; exact OwS.nil.rd, hr3.keeps.toBelow⟩).1
  have hOK : TickOK t n := ⟨hC, by omega⟩
  have hE : tickE t n = 0 := if_pos hOK
  have hG : tickT t n = ⟨t.last, n, t.L.filter (keptT n)⟩ := if_pos hOK
  have hX : tickO t n = t.L.filter (overT n) := if_pos hOK
  refine seg cfg44_ok mixed PanicFree.body 1000 [false] [(14, false)] h2 (by first | trivial | exact HpRep.nil | assumption) (by kernel_rfl) fun sB hsB => ?_
  simp (maxSteps := 10000000) [SX.vc, SX.stop, SX.contS, SX.contB, SX.contW, SX.contR, SX.contD, SX.sxStep, SX.stepPure, SX.stepNew, SX.stepStore, SX.stepKeep, SX.guardIx, SX.evOp, SX.opd, SX.opds, SX.optOpd, SX.look, SX.putS, SX.gobs, SX.AllP, SX.leave, SX.lookC, SX.lookB, SX.lookT, SX.lookN, SX.findK, SX.evBuiltin, SX.ints, SX.foldI, SX.evBin, SX.evInt, SX.evStr, SX.evEq, SX.arith, SX.evLoad, SX.shapeUp, SX.evFieldAddr, SX.evField, SX.evIndexAddr, SX.evIndex, SX.evFill, SX.evBuild, SX.szs, SX.cellsV, SX.evNew, SX.evStore, SX.spliceL, SX.SV.cells, SX.evConv, SX.evSlice, SX.bnd, SX.evNil, SX.evUn, SX.evPick, SX.pickOpd, SX.popTo, SX.cnd, SX.env0, SX.TD.isAgg, SX.TD.isIface, SX.tails, SX.NotAgg, SX.evLookup, SX.evConvH, SX.evPtrEq, SX.isCells, SX.thaw, SX.frz, SX.fixB, SX.rootIx, SX.Froz, SX.frzStep, SX.fork, Go.Value.cells, Go.undef, cfg44, hc, hnow, tabC]
  refine ⟨by (unfold SX.Ob; first | trivial | omega | ((try simp only [SX.inK]); (try simp [SX.den, SX.IsU8, SX.AllP, *]); (try omega))), ?_⟩
  intro a3 w3 hr3 _
  generalize hc4 : sA + 1 = c4 at hr3
  generalize hc7 : sB = c7 at hr3
  have hA3 := hr3.all
  refine post_loop (RTickLoop w (.slice ad t.L.length cp) t n c4 c7) t.L.length ⟨0, .slice none 0 0, .slice none 0 0, fun _ => False, fun _ => False, rfl, by omega, OwS.nil, OwS.nil, fun _ h => h.elim, fun _ h => h.elim, fun _ h => h.elim, hr3.re (by simp [envTo, SX.look, den]) ⟨⟨hA3.2.1.1, hA3.2.1.2.1, by have e := hA3.2.1.2.2; simp at e ⊢; omega⟩, ⟨hA3.2.2.1.1, hA3.2.2.1.2.1, by simp⟩, trivial⟩ rfl rfl⟩ ?_
  rintro m a4 w4 ⟨k, vr, vo, PA, PB, rfl, hk, hOA, hOB, hAB, hPA, hPB, hr4⟩
  have z4 : w.heap.size ≤ w4.heap.size := hr4.keeps.size
  by_cases hlt : k < t.L.length
  · have hwl : (List.filter (overT n) (List.take k t.L)).length ≤ 100000 := Nat.le_trans (List.length_filter_le _ _) (by simp; omega)
    have hwl2 : (List.filter (keptT n) (List.take k t.L)).length ≤ 100000 := Nat.le_trans (List.length_filter_le _ _) (by simp; omega)
    obtain ⟨b, o0, cap, u, fz, hP, hv, hrep⟩ := hL.opn hlt
    cases hv
    have hbw := SO.rep_lt hrep
    have hrep4 := SO.rep_same hrep (hr4.keeps.toBelow.block _ hbw)
    obtain ⟨x, hx⟩ : ∃ x, nth lse0 t.L k = x := ⟨_, rfl⟩
    have hA4 := hr4.all
    have g0 : w.heap.size ≤ c4 := by
      have h := hA4.1.2.1 rfl
      simpa [frame0] using h
    have g1 : w.heap.size ≤ c7 := by
      have h := hA4.2.1.2.1 rfl
      simpa [frame0] using h
    have h5 := (hr4.top 26 (.sl 2 b o0 0 t.L.length cp 4) rfl (by simp [den])).see [(c4, true, .cells [.v (.int .i64 0), .v (.int .i64 0), .v (.slice none 0 0)] 24), (c7, true, .cells [.v (.int .i64 t.last), .v (.int .i64 n), .v vr] 24), (b, false, .arr o0 t.L.length (fun j => lseC (nth lse0 t.L j)) 4 u fz)] ⟨⟨hA4.1.1, hA4.1.2.1, by have e := hA4.1.2.2; simp at e ⊢; omega⟩, ⟨hA4.2.1.1, hA4.2.1.2.1, by have e := hA4.2.1.2.2; simp at e ⊢; omega⟩, HpAll.one hrep4⟩
    have hf1 := filter_takeL (p := overT n) hlt hx
    have hf2 := filter_takeL (p := keptT n) hlt hx
    by_cases hxn : x.u ≤ n
    · rw [show overT n x = true by simp [overT, hxn], if_pos rfl] at hf1
      rw [show keptT n x = false by simp [keptT, hxn]] at hf2
      simp only [Bool.false_eq_true, if_false, List.append_nil] at hf2
      refine seg cfg44_ok mixed PanicFree.body 1000 [true, true] [] h5.rebase (by first | trivial | exact HpRep.nil | assumption) (by kernel_rfl) fun sC hsC => ?_
      simp (maxSteps := 10000000) [SX.vc, SX.stop, SX.contS, SX.contB, SX.contW, SX.contR, SX.contD, SX.sxStep, SX.stepPure, SX.stepNew, SX.stepStore, SX.stepKeep, SX.guardIx, SX.evOp, SX.opd, SX.opds, SX.optOpd, SX.look, SX.putS, SX.gobs, SX.AllP, SX.leave, SX.lookC, SX.lookB, SX.lookT, SX.lookN, SX.findK, SX.evBuiltin, SX.ints, SX.foldI, SX.evBin, SX.evInt, SX.evStr, SX.evEq, SX.arith, SX.evLoad, SX.shapeUp, SX.evFieldAddr, SX.evField, SX.evIndexAddr, SX.evIndex, SX.evFill, SX.evBuild, SX.szs, SX.cellsV, SX.evNew, SX.evStore, SX.spliceL, SX.SV.cells, SX.evConv, SX.evSlice, SX.bnd, SX.evNil, SX.evUn, SX.evPick, SX.pickOpd, SX.popTo, SX.cnd, SX.env0, SX.TD.isAgg, SX.TD.isIface, SX.tails, SX.NotAgg, SX.evLookup, SX.evConvH, SX.evPtrEq, SX.isCells, SX.thaw, SX.frz, SX.fixB, SX.rootIx, SX.Froz, SX.frzStep, SX.fork, Go.Value.cells, Go.undef, cfg44, lseC, hx, hxn]
      refine ⟨by (unfold SX.Ob; first | trivial | omega | ((try simp only [SX.inK]); (try simp [SX.den, SX.IsU8, SX.AllP, *]); (try omega))), ?_⟩
      intro a6 w6 hr6' _
      have hr6 := h5.unbase hr6'
      have z6 : w4.heap.size ≤ w6.heap.size := hr6'.keeps.size
      have hO6 := (hOB.keep hr6'.keeps (fun y hy hP' => by
        have g := hPB _ hP'
        simp [frameAt, mutB] at hy
        omega)).mono (P' := fun x => PB x ∨ w6.heap.size ≤ x) fun x _ h => .inl h
      have hA6 := hr6.all
      have hn0 : ¬ (PB c4 ∨ w6.heap.size ≤ c4) := fun h => by
        have g := SO.rep_lt hA4.1.1
        rcases h with h | h
        · exact absurd rfl (hPB _ h).2.2.1
        · omega
      have hn1 : ¬ (PB c7 ∨ w6.heap.size ≤ c7) := fun h => by
        have g := SO.rep_lt hA4.2.1.1
        rcases h with h | h
        · exact absurd rfl (hPB _ h).2.2.2
        · omega
      have hF6 : ∀ x, (PB x ∨ w6.heap.size ≤ x) → (frame0 w).B ≤ x ∨ x ∈ (frame0 w).M := fun x hx => .inl (by
        show w.heap.size ≤ x
        rcases hx with h | h
        · exact (hPB _ h).1
        · omega)
      have hhOA6 := hOA.keep hr6'.keeps (fun y hy hP' => by
        have g := hPA _ hP'
        simp [frameAt, mutB] at hy
        omega)
      have hd01 : c4 ≠ c7 := by have e := hA4.1.2.2; simp at e; omega
      refine post_app (C := cfg44) cfg44_ok hr6 (by first | exact wanted_none rfl | exact wanted_zero (hr6.env.same rfl rfl rfl rfl) rfl (by simp)) rfl (by simp) rfl rfl rfl rfl rfl rfl rfl rfl rfl (by decide) (flatL _) (by (try simp only [List.length_append, List.length_cons, List.length_nil, List.length_map, List.length_take]); omega) (fun x hx => .inr hx) hO6 (RdS.lit (enc := lseC) (sz := 4) (d := lse0) (x := x) hr6.all.2.2.2.2.1.1 (by simp [lseC])) [(c4, true, .cells [.v (.int .i64 0), .v (.int .i64 0), .v (.slice none 0 0)] 24), (c7, true, .cells [.v (.int .i64 t.last), .v (.int .i64 n), .v vr] 24)] (fun w' B hk hB' => ⟨⟨KeepsTo.same hk hA6.1.1 (fun h => hn0 (hB' _ h).1), hA6.1.2.1, by simp [hd01]⟩, ⟨KeepsTo.same hk hA6.2.1.1 (fun h => hn1 (hB' _ h).1), hA6.2.1.2.1, by simp⟩, trivial⟩) hF6 fun V7 a7 w7 B7 hO7 hB7 hk7 hr7 => ?_
      have z7 : w6.heap.size ≤ w7.heap.size := hk7.size
      have hhOA7 := hhOA6.keep hk7 (fun y hy hQ => by
        have g := (hB7 y hy).1
        rcases g with g | g
        · exact hAB y hQ g
        · have := (hPA _ hQ).2.1
          omega)
      obtain ⟨adV, nV, cpV, rfl⟩ : ∃ ad n cp, V7 = Value.slice ad n cp := by obtain ⟨x1, x2, h1⟩ := hO7.slice; exact ⟨_, _, _, h1⟩
      refine seg cfg44_ok mixed PanicFree.body 1000 [] [] hr7.rebase (by first | trivial | exact HpRep.nil | assumption) (by kernel_rfl) fun s_ hs_ => ?_
      simp (maxSteps := 10000000) [SX.vc, SX.stop, SX.contS, SX.contB, SX.contW, SX.contR, SX.contD, SX.sxStep, SX.stepPure, SX.stepNew, SX.stepStore, SX.stepKeep, SX.guardIx, SX.evOp, SX.opd, SX.opds, SX.optOpd, SX.look, SX.putS, SX.gobs, SX.AllP, SX.leave, SX.lookC, SX.lookB, SX.lookT, SX.lookN, SX.findK, SX.evBuiltin, SX.ints, SX.foldI, SX.evBin, SX.evInt, SX.evStr, SX.evEq, SX.arith, SX.evLoad, SX.shapeUp, SX.evFieldAddr, SX.evField, SX.evIndexAddr, SX.evIndex, SX.evFill, SX.evBuild, SX.szs, SX.cellsV, SX.evNew, SX.evStore, SX.spliceL, SX.SV.cells, SX.evConv, SX.evSlice, SX.bnd, SX.evNil, SX.evUn, SX.evPick, SX.pickOpd, SX.popTo, SX.cnd, SX.env0, SX.TD.isAgg, SX.TD.isIface, SX.tails, SX.NotAgg, SX.evLookup, SX.evConvH, SX.evPtrEq, SX.isCells, SX.thaw, SX.frz, SX.fixB, SX.rootIx, SX.Froz, SX.frzStep, SX.fork, Go.Value.cells, Go.undef, cfg44]
      refine ⟨by (unfold SX.Ob; first | trivial | omega | ((try simp only [SX.inK]); (try simp [SX.den, SX.IsU8, SX.AllP, *]); (try omega))), ?_⟩
      intro a8 w8 hr8' _
      have hr8 := hr7.unbase hr8'
      have z8 : w7.heap.size ≤ w8.heap.size := hr8'.keeps.size
      have hO8 := (hO7.mono (P' := fun x => (PB x ∨ w6.heap.size ≤ x) ∧ x < w7.heap.size) fun x h1 h2 => ⟨h2, h1⟩).keep hr8'.keeps (fun y hy hP' => by
        simp [frameAt, mutB] at hy
        rcases hy with rfl | rfl
        · exact hn0 hP'.1
        · exact hn1 hP'.1)
      have hhOA8 := hhOA7.keep hr8'.keeps (fun y hy hP' => by
        have g := hPA _ hP'
        simp [frameAt, mutB] at hy
        omega)
      have hP8 : ∀ y, ((PB y ∨ w6.heap.size ≤ y) ∧ y < w7.heap.size) → w.heap.size ≤ y ∧ y < w8.heap.size ∧ y ≠ c4 ∧ y ≠ c7 := fun y hy => by
        refine ⟨by simpa [frame0] using hF6 y hy.1, by omega, fun e => hn0 (e ▸ hy.1), fun e => hn1 (e ▸ hy.1)⟩
      exact post_rnd (t.L.length - (k + 1)) (by omega) ⟨k + 1, vr, _, PA, _, rfl, by omega, by rw [hf2]; exact hhOA8, by rw [hf1]; exact hO8, fun y h1 h2 => (by
        rcases h2.1 with h | h
        · exact hAB y h1 h
        · have := (hPA _ h1).2.1
          omega), fun y h => (by
        have := hPA y h
        omega), hP8, hr8.re (by simp [envTo, SX.look, den]) (hr8.all.take 2) rfl rfl⟩
    · rw [show overT n x = false by simp [overT, hxn]] at hf1
      rw [show keptT n x = true by simp [keptT]; omega, if_pos rfl] at hf2
      simp only [Bool.false_eq_true, if_false, List.append_nil] at hf1
      refine seg cfg44_ok mixed PanicFree.body 1000 [true, false] [] h5.rebase (by first | trivial | exact HpRep.nil | assumption) (by kernel_rfl) fun sC hsC => ?_
      simp (maxSteps := 10000000) [SX.vc, SX.stop, SX.contS, SX.contB, SX.contW, SX.contR, SX.contD, SX.sxStep, SX.stepPure, SX.stepNew, SX.stepStore, SX.stepKeep, SX.guardIx, SX.evOp, SX.opd, SX.opds, SX.optOpd, SX.look, SX.putS, SX.gobs, SX.AllP, SX.leave, SX.lookC, SX.lookB, SX.lookT, SX.lookN, SX.findK, SX.evBuiltin, SX.ints, SX.foldI, SX.evBin, SX.evInt, SX.evStr, SX.evEq, SX.arith, SX.evLoad, SX.shapeUp, SX.evFieldAddr, SX.evField, SX.evIndexAddr, SX.evIndex, SX.evFill, SX.evBuild, SX.szs, SX.cellsV, SX.evNew, SX.evStore, SX.spliceL, SX.SV.cells, SX.evConv, SX.evSlice, SX.bnd, SX.evNil, SX.evUn, SX.evPick, SX.pickOpd, SX.popTo, SX.cnd, SX.env0, SX.TD.isAgg, SX.TD.isIface, SX.tails, SX.NotAgg, SX.evLookup, SX.evConvH, SX.evPtrEq, SX.isCells, SX.thaw, SX.frz, SX.fixB, SX.rootIx, SX.Froz, SX.frzStep, SX.fork, Go.Value.cells, Go.undef, cfg44, lseC, hx, hxn]
      refine ⟨by (unfold SX.Ob; first | trivial | omega | ((try simp only [SX.inK]); (try simp [SX.den, SX.IsU8, SX.AllP, *]); (try omega))), ?_⟩
      intro a6 w6 hr6' _
      have hr6 := h5.unbase hr6'
      have z6 : w4.heap.size ≤ w6.heap.size := hr6'.keeps.size
      have hO6 := (hOA.keep hr6'.keeps (fun y hy hP' => by
        have g := hPA _ hP'
        simp [frameAt, mutB] at hy
        omega)).mono (P' := fun x => PA x ∨ w6.heap.size ≤ x) fun x _ h => .inl h
      have hA6 := hr6.all
      have hn0 : ¬ (PA c4 ∨ w6.heap.size ≤ c4) := fun h => by
        have g := SO.rep_lt hA4.1.1
        rcases h with h | h
        · exact absurd rfl (hPA _ h).2.2.1
        · omega
      have hn1 : ¬ (PA c7 ∨ w6.heap.size ≤ c7) := fun h => by
        have g := SO.rep_lt hA4.2.1.1
        rcases h with h | h
        · exact absurd rfl (hPA _ h).2.2.2
        · omega
      have hF6 : ∀ x, (PA x ∨ w6.heap.size ≤ x) → (frame0 w).B ≤ x ∨ x ∈ (frame0 w).M := fun x hx => .inl (by
        show w.heap.size ≤ x
        rcases hx with h | h
        · exact (hPA _ h).1
        · omega)
      have hhOB6 := hOB.keep hr6'.keeps (fun y hy hP' => by
        have g := hPB _ hP'
        simp [frameAt, mutB] at hy
        omega)
      have hd01 : c4 ≠ c7 := by have e := hA4.1.2.2; simp at e; omega
      refine post_app (C := cfg44) cfg44_ok hr6 (by first | exact wanted_none rfl | exact wanted_zero (hr6.env.same rfl rfl rfl rfl) rfl (by simp)) rfl (by simp) rfl rfl rfl rfl rfl rfl rfl rfl rfl (by decide) (flatL _) (by (try simp only [List.length_append, List.length_cons, List.length_nil, List.length_map, List.length_take]); omega) (fun x hx => .inr hx) hO6 (RdS.lit (enc := lseC) (sz := 4) (d := lse0) (x := x) hr6.all.2.2.2.2.1.1 (by simp [lseC])) [(c4, true, .cells [.v (.int .i64 0), .v (.int .i64 0), .v (.slice none 0 0)] 24), (c7, true, .cells [.v (.int .i64 t.last), .v (.int .i64 n), .v vr] 24)] (fun w' B hk hB' => ⟨⟨KeepsTo.same hk hA6.1.1 (fun h => hn0 (hB' _ h).1), hA6.1.2.1, by simp [hd01]⟩, ⟨KeepsTo.same hk hA6.2.1.1 (fun h => hn1 (hB' _ h).1), hA6.2.1.2.1, by simp⟩, trivial⟩) hF6 fun V7 a7 w7 B7 hO7 hB7 hk7 hr7 => ?_
      have z7 : w6.heap.size ≤ w7.heap.size := hk7.size
      have hhOB7 := hhOB6.keep hk7 (fun y hy hQ => by
        have g := (hB7 y hy).1
        rcases g with g | g
        · exact hAB y g hQ
        · have := (hPB _ hQ).2.1
          omega)
      obtain ⟨adV, nV, cpV, rfl⟩ : ∃ ad n cp, V7 = Value.slice ad n cp := by obtain ⟨x1, x2, h1⟩ := hO7.slice; exact ⟨_, _, _, h1⟩
      refine seg cfg44_ok mixed PanicFree.body 1000 [] [] hr7.rebase (by first | trivial | exact HpRep.nil | assumption) (by kernel_rfl) fun s_ hs_ => ?_
      simp (maxSteps := 10000000) [SX.vc, SX.stop, SX.contS, SX.contB, SX.contW, SX.contR, SX.contD, SX.sxStep, SX.stepPure, SX.stepNew, SX.stepStore, SX.stepKeep, SX.guardIx, SX.evOp, SX.opd, SX.opds, SX.optOpd, SX.look, SX.putS, SX.gobs, SX.AllP, SX.leave, SX.lookC, SX.lookB, SX.lookT, SX.lookN, SX.findK, SX.evBuiltin, SX.ints, SX.foldI, SX.evBin, SX.evInt, SX.evStr, SX.evEq, SX.arith, SX.evLoad, SX.shapeUp, SX.evFieldAddr, SX.evField, SX.evIndexAddr, SX.evIndex, SX.evFill, SX.evBuild, SX.szs, SX.cellsV, SX.evNew, SX.evStore, SX.spliceL, SX.SV.cells, SX.evConv, SX.evSlice, SX.bnd, SX.evNil, SX.evUn, SX.evPick, SX.pickOpd, SX.popTo, SX.cnd, SX.env0, SX.TD.isAgg, SX.TD.isIface, SX.tails, SX.NotAgg, SX.evLookup, SX.evConvH, SX.evPtrEq, SX.isCells, SX.thaw, SX.frz, SX.fixB, SX.rootIx, SX.Froz, SX.frzStep, SX.fork, Go.Value.cells, Go.undef, cfg44]
      refine ⟨by (unfold SX.Ob; first | trivial | omega | ((try simp only [SX.inK]); (try simp [SX.den, SX.IsU8, SX.AllP, *]); (try omega))), ?_⟩
      intro a8 w8 hr8' _
      have hr8 := hr7.unbase hr8'
      have z8 : w7.heap.size ≤ w8.heap.size := hr8'.keeps.size
      have hO8 := (hO7.mono (P' := fun x => (PA x ∨ w6.heap.size ≤ x) ∧ x < w7.heap.size) fun x h1 h2 => ⟨h2, h1⟩).keep hr8'.keeps (fun y hy hP' => by
        simp [frameAt, mutB] at hy
        rcases hy with rfl | rfl
        · exact hn0 hP'.1
        · exact hn1 hP'.1)
      have hhOB8 := hhOB7.keep hr8'.keeps (fun y hy hP' => by
        have g := hPB _ hP'
        simp [frameAt, mutB] at hy
        omega)
      have hP8 : ∀ y, ((PA y ∨ w6.heap.size ≤ y) ∧ y < w7.heap.size) → w.heap.size ≤ y ∧ y < w8.heap.size ∧ y ≠ c4 ∧ y ≠ c7 := fun y hy => by
        refine ⟨by simpa [frame0] using hF6 y hy.1, by omega, fun e => hn0 (e ▸ hy.1), fun e => hn1 (e ▸ hy.1)⟩
      exact post_rnd (t.L.length - (k + 1)) (by omega) ⟨k + 1, _, vo, _, PB, rfl, by omega, by rw [hf2]; exact hO8, by rw [hf1]; exact hhOB8, fun y h2 h1 => (by
        rcases h2.1 with h | h
        · exact hAB y h h1
        · have := (hPB _ h1).2.1
          omega), hP8, fun y h => (by
        have := hPB y h
        omega), hr8.re (by simp [envTo, SX.look, den]) (hr8.all.take 2) rfl rfl⟩
  · obtain rfl : k = t.L.length := by omega
    rw [List.take_length] at hOA hOB
    obtain ⟨adr, cpr, rfl⟩ := hOA.slice
    refine seg cfg44_ok mixed PanicFree.body 1000 [false] [] hr4.rebase (by first | trivial | exact HpRep.nil | assumption) (by kernel_rfl) fun s_ hs_ => ?_
    simp (maxSteps := 10000000) [SX.vc, SX.stop, SX.contS, SX.contB, SX.contW, SX.contR, SX.contD, SX.sxStep, SX.stepPure, SX.stepNew, SX.stepStore, SX.stepKeep, SX.guardIx, SX.evOp, SX.opd, SX.opds, SX.optOpd, SX.look, SX.putS, SX.gobs, SX.AllP, SX.leave, SX.lookC, SX.lookB, SX.lookT, SX.lookN, SX.findK, SX.evBuiltin, SX.ints, SX.foldI, SX.evBin, SX.evInt, SX.evStr, SX.evEq, SX.arith, SX.evLoad, SX.shapeUp, SX.evFieldAddr, SX.evField, SX.evIndexAddr, SX.evIndex, SX.evFill, SX.evBuild, SX.szs, SX.cellsV, SX.evNew, SX.evStore, SX.spliceL, SX.SV.cells, SX.evConv, SX.evSlice, SX.bnd, SX.evNil, SX.evUn, SX.evPick, SX.pickOpd, SX.popTo, SX.cnd, SX.env0, SX.TD.isAgg, SX.TD.isIface, SX.tails, SX.NotAgg, SX.evLookup, SX.evConvH, SX.evPtrEq, SX.isCells, SX.thaw, SX.frz, SX.fixB, SX.rootIx, SX.Froz, SX.frzStep, SX.fork, Go.Value.cells, Go.undef, cfg44]
    refine ⟨by (unfold SX.Ob; first | trivial | omega | ((try simp only [SX.inK]); (try simp [SX.den, SX.IsU8, SX.AllP, *]); (try omega))), ?_⟩
    intro a9 w9 hr9' _
    have hr9 := hr4.unbase hr9'
    have hOA9 := hOA.keep hr9'.keeps (fun y hy hP' => by
      have g := hPA _ hP'
      simp [frameAt, mutB] at hy
      omega)
    have hOB9 := hOB.keep hr9'.keeps (fun y hy hP' => by
      have g := hPB _ hP'
      simp [frameAt, mutB] at hy
      omega)
    exact post_retn (endCTT hr9 rfl rfl rfl tok24 rfl rfl rfl ⟨.slice adr (List.filter (keptT n) t.L).length cpr, vo, by rw [hE, hG]; simp [den, denL, tabC], by rw [hG]; exact hOA9.rd.mono fun x _ h => (hPA x h).1, by rw [hX]; exact hOB9.rd.mono fun x _ h => (hPB x h).1, hr9.keeps.toBelow⟩).1

def neK (key : Int) (x : Lse) : Bool := decide (x.k ≠ key)
def RRevLoop (w : World) (v : Value) (t : Tab) (key : Int) (c4 c8 : Nat) (m : Nat) (a : Act) (w' : World) : Prop :=
  ∃ (k : Nat) (vr : Value) (PA : Nat → Prop), m = t.L.length - k ∧ k ≤ t.L.length ∧ OwL PA w' vr ((t.L.take k).filter (neK key)) ∧ (∀ x, PA x → w.heap.size ≤ x ∧ x < w'.heap.size ∧ x ≠ c4 ∧ x ≠ c8) ∧ RepX (frame0 w) ⟨[(32, 0, .v (.int .i64 k)), (31, 0, .v (.int .i64 t.L.length)), (30, 0, .v v), (1, 0, .v (.int .i64 key)), (8, 0, .ptr 1 c8 0), (4, 0, .ptr 0 c4 0)], [(c4, true, .cells [.v (.int .i64 0), .v (.int .i64 0), .v (.slice none 0 0)] 24), (c8, true, .cells [.v (.int .i64 t.last), .v (.int .i64 t.now), .v vr] 24)], 0, 0, 48, [], [], []⟩ a w'

set_option maxRecDepth 100000 in
set_option maxHeartbeats 32000000 in
/-- The document's Revoke. -/
theorem rRevoke_ok {P : Nat → Prop} (w : World) (v : Value) (t : Tab) (key : Int) (hL : RdL P w v t.L) (hn : t.L.length ≤ 100000) : Calls Try.prog 47 (denL [.ag (tabC t v), .v (.int .i64 key)]).toArray w (RevR w t key) := by
  obtain ⟨ad, cp, rfl⟩ := hL.slice
  refine enter (F := frame0 w) Try.func47 rfl [.ag (tabC t (.slice ad t.L.length cp)), .v (.int .i64 key)] [] (by simp [Try.f47]) trivial (keeps0 w) fun a hr => ?_
  refine seg cfg47_ok mixed PanicFree.body 1000 [] [] hr (by first | trivial | exact HpRep.nil | assumption) (by kernel_rfl) fun sA hsA => ?_
  simp (maxSteps := 10000000) [SX.vc, SX.stop, SX.contS, SX.contB, SX.contW, SX.contR, SX.contD, SX.sxStep, SX.stepPure, SX.stepNew, SX.stepStore, SX.stepKeep, SX.guardIx, SX.evOp, SX.opd, SX.opds, SX.optOpd, SX.look, SX.putS, SX.gobs, SX.AllP, SX.leave, SX.lookC, SX.lookB, SX.lookT, SX.lookN, SX.findK, SX.evBuiltin, SX.ints, SX.foldI, SX.evBin, SX.evInt, SX.evStr, SX.evEq, SX.arith, SX.evLoad, SX.shapeUp, SX.evFieldAddr, SX.evField, SX.evIndexAddr, SX.evIndex, SX.evFill, SX.evBuild, SX.szs, SX.cellsV, SX.evNew, SX.evStore, SX.spliceL, SX.SV.cells, SX.evConv, SX.evSlice, SX.bnd, SX.evNil, SX.evUn, SX.evPick, SX.pickOpd, SX.popTo, SX.cnd, SX.env0, SX.TD.isAgg, SX.TD.isIface, SX.tails, SX.NotAgg, SX.evLookup, SX.evConvH, SX.evPtrEq, SX.isCells, SX.thaw, SX.frz, SX.fixB, SX.rootIx, SX.Froz, SX.frzStep, SX.fork, Go.Value.cells, Go.undef, cfg47, Try.f47, tabC]
  refine ⟨by (unfold SX.Ob; first | trivial | omega | ((try simp only [SX.inK]); (try simp [SX.den, SX.IsU8, SX.AllP, *]); (try omega))), ?_⟩
  intro a1 w1 hr1 _
  refine post_call 11 [.ag [.v (.int .i64 t.last), .v (.int .i64 t.now), .v (.slice ad t.L.length cp)]] hr1 (by first | exact wanted_none rfl | exact wanted_zero (hr1.env.same rfl rfl rfl rfl) rfl (by simp) | exact wanted_zero (hr1.env.same rfl rfl rfl rfl) rfl (by simp [*])) rfl (callable 11 Try.func11) (rcheck_ok w1 _ t (hL.below hr1.keeps.toBelow) (by omega)) ?_
  rintro e2 w2 ⟨rfl, hb2⟩
  refine ⟨_, rfl, ?_⟩
  have h2 := hr1.ret hb2 12 (.v (.int .i64 (chkT t))) rfl _ (hr1.all.below hb2) (by simp) rfl
  by_cases hC : ChkT t
  rotate_left
  · have hc : chkT t = 1 := if_neg hC
    have hE : revE t key = 1 := if_neg hC
    have hT : revT t key = tab0 := if_neg (by omega)
    refine seg cfg47_ok mixed PanicFree.body 1000 [true] [] h2 (by first | trivial | exact HpRep.nil | assumption) (by kernel_rfl) fun s_ hs_ => ?_
    simp (maxSteps := 10000000) [SX.vc, SX.stop, SX.contS, SX.contB, SX.contW, SX.contR, SX.contD, SX.sxStep, SX.stepPure, SX.stepNew, SX.stepStore, SX.stepKeep, SX.guardIx, SX.evOp, SX.opd, SX.opds, SX.optOpd, SX.look, SX.putS, SX.gobs, SX.AllP, SX.leave, SX.lookC, SX.lookB, SX.lookT, SX.lookN, SX.findK, SX.evBuiltin, SX.ints, SX.foldI, SX.evBin, SX.evInt, SX.evStr, SX.evEq, SX.arith, SX.evLoad, SX.shapeUp, SX.evFieldAddr, SX.evField, SX.evIndexAddr, SX.evIndex, SX.evFill, SX.evBuild, SX.szs, SX.cellsV, SX.evNew, SX.evStore, SX.spliceL, SX.SV.cells, SX.evConv, SX.evSlice, SX.bnd, SX.evNil, SX.evUn, SX.evPick, SX.pickOpd, SX.popTo, SX.cnd, SX.env0, SX.TD.isAgg, SX.TD.isIface, SX.tails, SX.NotAgg, SX.evLookup, SX.evConvH, SX.evPtrEq, SX.isCells, SX.thaw, SX.frz, SX.fixB, SX.rootIx, SX.Froz, SX.frzStep, SX.fork, Go.Value.cells, Go.undef, cfg47, hc]
    refine ⟨by (unfold SX.Ob; first | trivial | omega | ((try simp only [SX.inK]); (try simp [SX.den, SX.IsU8, SX.AllP, *]); (try omega))), ?_⟩
    intro a3 w3 hr3 _
    exact post_retn (endC2 hr3 rfl rfl rfl tok24 rfl rfl ⟨.slice none 0 0, by rw [hE, hT]; simp [den, denL, tabC, tab0], by rw [hT]; exact OwS.nil.rd, hr3.keeps.toBelow⟩).1
  have hc : chkT t = 0 := if_pos hC
  refine seg cfg47_ok mixed PanicFree.body 1000 [false] [] h2 (by first | trivial | exact HpRep.nil | assumption) (by kernel_rfl) fun s_ hs_ => ?_
  simp (maxSteps := 10000000) [SX.vc, SX.stop, SX.contS, SX.contB, SX.contW, SX.contR, SX.contD, SX.sxStep, SX.stepPure, SX.stepNew, SX.stepStore, SX.stepKeep, SX.guardIx, SX.evOp, SX.opd, SX.opds, SX.optOpd, SX.look, SX.putS, SX.gobs, SX.AllP, SX.leave, SX.lookC, SX.lookB, SX.lookT, SX.lookN, SX.findK, SX.evBuiltin, SX.ints, SX.foldI, SX.evBin, SX.evInt, SX.evStr, SX.evEq, SX.arith, SX.evLoad, SX.shapeUp, SX.evFieldAddr, SX.evField, SX.evIndexAddr, SX.evIndex, SX.evFill, SX.evBuild, SX.szs, SX.cellsV, SX.evNew, SX.evStore, SX.spliceL, SX.SV.cells, SX.evConv, SX.evSlice, SX.bnd, SX.evNil, SX.evUn, SX.evPick, SX.pickOpd, SX.popTo, SX.cnd, SX.env0, SX.TD.isAgg, SX.TD.isIface, SX.tails, SX.NotAgg, SX.evLookup, SX.evConvH, SX.evPtrEq, SX.isCells, SX.thaw, SX.frz, SX.fixB, SX.rootIx, SX.Froz, SX.frzStep, SX.fork, Go.Value.cells, Go.undef, cfg47, hc, tabC]
  refine ⟨by (unfold SX.Ob; first | trivial | omega | ((try simp only [SX.inK]); (try simp [SX.den, SX.IsU8, SX.AllP, *]); (try omega))), ?_⟩
  intro a3 w3 hr3 _
  refine post_call 20 [.ag [.v (.int .i64 t.last), .v (.int .i64 t.now), .v (.slice ad t.L.length cp)], .v (.int .i64 key)] hr3 (by first | exact wanted_none rfl | exact wanted_zero (hr3.env.same rfl rfl rfl rfl) rfl (by simp) | exact wanted_zero (hr3.env.same rfl rfl rfl rfl) rfl (by simp [*])) rfl (callable 20 Try.func20) (rHolder_ok w3 _ t key (hL.below hr3.keeps.toBelow) (by omega)) ?_
  rintro e4 w4 ⟨rfl, hb4⟩
  refine ⟨_, rfl, ?_⟩
  have h4 := hr3.ret hb4 18 (.tu [.ag (lseC (holdX t key)), .v (.bool (decide (HasT t key)))]) rfl _ (hr3.all.below hb4) (by simp) rfl
  by_cases hH : HasK t.L key
  rotate_left
  · have hE : revE t key = 4 := by rw [revE, if_pos hC, if_neg hH]
    have hT : revT t key = tab0 := if_neg (by omega)
    have hHT : ¬ HasT t key := fun h => hH h.2
    refine seg cfg47_ok mixed PanicFree.body 1000 [true] [] h4 (by first | trivial | exact HpRep.nil | assumption) (by kernel_rfl) fun s_ hs_ => ?_
    simp (maxSteps := 10000000) [SX.vc, SX.stop, SX.contS, SX.contB, SX.contW, SX.contR, SX.contD, SX.sxStep, SX.stepPure, SX.stepNew, SX.stepStore, SX.stepKeep, SX.guardIx, SX.evOp, SX.opd, SX.opds, SX.optOpd, SX.look, SX.putS, SX.gobs, SX.AllP, SX.leave, SX.lookC, SX.lookB, SX.lookT, SX.lookN, SX.findK, SX.evBuiltin, SX.ints, SX.foldI, SX.evBin, SX.evInt, SX.evStr, SX.evEq, SX.arith, SX.evLoad, SX.shapeUp, SX.evFieldAddr, SX.evField, SX.evIndexAddr, SX.evIndex, SX.evFill, SX.evBuild, SX.szs, SX.cellsV, SX.evNew, SX.evStore, SX.spliceL, SX.SV.cells, SX.evConv, SX.evSlice, SX.bnd, SX.evNil, SX.evUn, SX.evPick, SX.pickOpd, SX.popTo, SX.cnd, SX.env0, SX.TD.isAgg, SX.TD.isIface, SX.tails, SX.NotAgg, SX.evLookup, SX.evConvH, SX.evPtrEq, SX.isCells, SX.thaw, SX.frz, SX.fixB, SX.rootIx, SX.Froz, SX.frzStep, SX.fork, Go.Value.cells, Go.undef, cfg47, hHT, lseC]
    refine ⟨by (unfold SX.Ob; first | trivial | omega | ((try simp only [SX.inK]); (try simp [SX.den, SX.IsU8, SX.AllP, *]); (try omega))), ?_⟩
    intro a5 w5 hr5 _
    exact post_retn (endC2 hr5 rfl rfl rfl tok24 rfl rfl ⟨.slice none 0 0, by rw [hE, hT]; simp [den, denL, tabC, tab0], by rw [hT]; exact OwS.nil.rd, hr5.keeps.toBelow⟩).1
  have hE : revE t key = 0 := by rw [revE, if_pos hC, if_pos hH]
  have hT : revT t key = ⟨t.last, t.now, t.L.filter (neK key)⟩ := if_pos hE
  have hHT : HasT t key := ⟨hC, hH⟩
  refine seg cfg47_ok mixed PanicFree.body 1000 [false] [] h4 (by first | trivial | exact HpRep.nil | assumption) (by kernel_rfl) fun sB hsB => ?_
  simp (maxSteps := 10000000) [SX.vc, SX.stop, SX.contS, SX.contB, SX.contW, SX.contR, SX.contD, SX.sxStep, SX.stepPure, SX.stepNew, SX.stepStore, SX.stepKeep, SX.guardIx, SX.evOp, SX.opd, SX.opds, SX.optOpd, SX.look, SX.putS, SX.gobs, SX.AllP, SX.leave, SX.lookC, SX.lookB, SX.lookT, SX.lookN, SX.findK, SX.evBuiltin, SX.ints, SX.foldI, SX.evBin, SX.evInt, SX.evStr, SX.evEq, SX.arith, SX.evLoad, SX.shapeUp, SX.evFieldAddr, SX.evField, SX.evIndexAddr, SX.evIndex, SX.evFill, SX.evBuild, SX.szs, SX.cellsV, SX.evNew, SX.evStore, SX.spliceL, SX.SV.cells, SX.evConv, SX.evSlice, SX.bnd, SX.evNil, SX.evUn, SX.evPick, SX.pickOpd, SX.popTo, SX.cnd, SX.env0, SX.TD.isAgg, SX.TD.isIface, SX.tails, SX.NotAgg, SX.evLookup, SX.evConvH, SX.evPtrEq, SX.isCells, SX.thaw, SX.frz, SX.fixB, SX.rootIx, SX.Froz, SX.frzStep, SX.fork, Go.Value.cells, Go.undef, cfg47, hHT, lseC]
  refine ⟨by (unfold SX.Ob; first | trivial | omega | ((try simp only [SX.inK]); (try simp [SX.den, SX.IsU8, SX.AllP, *]); (try omega))), ?_⟩
  intro a3 w3 hr3 _
  generalize hc4 : sA + 1 = c4 at hr3
  generalize hc8 : sB + 1 = c8 at hr3
  have hA3 := hr3.all
  refine post_loop (RRevLoop w (.slice ad t.L.length cp) t key c4 c8) t.L.length ⟨0, .slice none 0 0, fun _ => False, rfl, by omega, OwS.nil, fun _ h => h.elim, hr3.re (by simp [envTo, SX.look, den]) ⟨⟨hA3.2.1.1, hA3.2.1.2.1, by have e := hA3.2.1.2.2; simp at e ⊢; omega⟩, ⟨hA3.2.2.2.1.1, hA3.2.2.2.1.2.1, by simp⟩, trivial⟩ rfl rfl⟩ ?_
  rintro m a4 w4 ⟨k, vr, PA, rfl, hk, hOA, hPA, hr4⟩
  have z4 : w.heap.size ≤ w4.heap.size := hr4.keeps.size
  by_cases hlt : k < t.L.length
  · have hwl : (List.filter (neK key) (List.take k t.L)).length ≤ 100000 := Nat.le_trans (List.length_filter_le _ _) (by simp; omega)
    obtain ⟨b, o0, cap, u, fz, hP, hv, hrep⟩ := hL.opn hlt
    cases hv
    have hbw := SO.rep_lt hrep
    have hrep4 := SO.rep_same hrep (hr4.keeps.toBelow.block _ hbw)
    obtain ⟨x, hx⟩ : ∃ x, nth lse0 t.L k = x := ⟨_, rfl⟩
    have hA4 := hr4.all
    have g0 : w.heap.size ≤ c4 := by
      have h := hA4.1.2.1 rfl
      simpa [frame0] using h
    have g1 : w.heap.size ≤ c8 := by
      have h := hA4.2.1.2.1 rfl
      simpa [frame0] using h
    have h5 := (hr4.top 30 (.sl 2 b o0 0 t.L.length cp 4) rfl (by simp [den])).see [(c4, true, .cells [.v (.int .i64 0), .v (.int .i64 0), .v (.slice none 0 0)] 24), (c8, true, .cells [.v (.int .i64 t.last), .v (.int .i64 t.now), .v vr] 24), (b, false, .arr o0 t.L.length (fun j => lseC (nth lse0 t.L j)) 4 u fz)] ⟨⟨hA4.1.1, hA4.1.2.1, by have e := hA4.1.2.2; simp at e ⊢; omega⟩, ⟨hA4.2.1.1, hA4.2.1.2.1, by have e := hA4.2.1.2.2; simp at e ⊢; omega⟩, HpAll.one hrep4⟩
    have hf1 := filter_takeL (p := neK key) hlt hx
    by_cases hxn : x.k ≠ key
    · rw [show (neK key) x = true by simpa [neK] using hxn, if_pos rfl] at hf1
      refine seg cfg47_ok mixed PanicFree.body 1000 [true, true] [] h5.rebase (by first | trivial | exact HpRep.nil | assumption) (by kernel_rfl) fun sC hsC => ?_
      simp (maxSteps := 10000000) [SX.vc, SX.stop, SX.contS, SX.contB, SX.contW, SX.contR, SX.contD, SX.sxStep, SX.stepPure, SX.stepNew, SX.stepStore, SX.stepKeep, SX.guardIx, SX.evOp, SX.opd, SX.opds, SX.optOpd, SX.look, SX.putS, SX.gobs, SX.AllP, SX.leave, SX.lookC, SX.lookB, SX.lookT, SX.lookN, SX.findK, SX.evBuiltin, SX.ints, SX.foldI, SX.evBin, SX.evInt, SX.evStr, SX.evEq, SX.arith, SX.evLoad, SX.shapeUp, SX.evFieldAddr, SX.evField, SX.evIndexAddr, SX.evIndex, SX.evFill, SX.evBuild, SX.szs, SX.cellsV, SX.evNew, SX.evStore, SX.spliceL, SX.SV.cells, SX.evConv, SX.evSlice, SX.bnd, SX.evNil, SX.evUn, SX.evPick, SX.pickOpd, SX.popTo, SX.cnd, SX.env0, SX.TD.isAgg, SX.TD.isIface, SX.tails, SX.NotAgg, SX.evLookup, SX.evConvH, SX.evPtrEq, SX.isCells, SX.thaw, SX.frz, SX.fixB, SX.rootIx, SX.Froz, SX.frzStep, SX.fork, Go.Value.cells, Go.undef, cfg47, lseC, hx, hxn]
      refine ⟨by (unfold SX.Ob; first | trivial | omega | ((try simp only [SX.inK]); (try simp [SX.den, SX.IsU8, SX.AllP, *]); (try omega))), ?_⟩
      intro a6 w6 hr6' _
      have hr6 := h5.unbase hr6'
      have z6 : w4.heap.size ≤ w6.heap.size := hr6'.keeps.size
      have hO6 := (hOA.keep hr6'.keeps (fun y hy hP' => by
        have g := hPA _ hP'
        simp [frameAt, mutB] at hy
        omega)).mono (P' := fun x => PA x ∨ w6.heap.size ≤ x) fun x _ h => .inl h
      have hA6 := hr6.all
      have hn0 : ¬ (PA c4 ∨ w6.heap.size ≤ c4) := fun h => by
        have g := SO.rep_lt hA4.1.1
        rcases h with h | h
        · exact absurd rfl (hPA _ h).2.2.1
        · omega
      have hn1 : ¬ (PA c8 ∨ w6.heap.size ≤ c8) := fun h => by
        have g := SO.rep_lt hA4.2.1.1
        rcases h with h | h
        · exact absurd rfl (hPA _ h).2.2.2
        · omega
      have hF6 : ∀ x, (PA x ∨ w6.heap.size ≤ x) → (frame0 w).B ≤ x ∨ x ∈ (frame0 w).M := fun x hx => .inl (by
        show w.heap.size ≤ x
        rcases hx with h | h
        · exact (hPA _ h).1
        · omega)
      have hd01 : c4 ≠ c8 := by have e := hA4.1.2.2; simp at e; omega
      refine post_app (C := cfg47) cfg47_ok hr6 (by first | exact wanted_none rfl | exact wanted_zero (hr6.env.same rfl rfl rfl rfl) rfl (by simp)) rfl (by simp) rfl rfl rfl rfl rfl rfl rfl rfl rfl (by decide) (flatL _) (by (try simp only [List.length_append, List.length_cons, List.length_nil, List.length_map, List.length_take]); omega) (fun x hx => .inr hx) hO6 (RdS.lit (enc := lseC) (sz := 4) (d := lse0) (x := x) hr6.all.2.2.2.2.1.1 (by simp [lseC])) [(c4, true, .cells [.v (.int .i64 0), .v (.int .i64 0), .v (.slice none 0 0)] 24), (c8, true, .cells [.v (.int .i64 t.last), .v (.int .i64 t.now), .v vr] 24)] (fun w' B hk hB' => ⟨⟨KeepsTo.same hk hA6.1.1 (fun h => hn0 (hB' _ h).1), hA6.1.2.1, by simp [hd01]⟩, ⟨KeepsTo.same hk hA6.2.1.1 (fun h => hn1 (hB' _ h).1), hA6.2.1.2.1, by simp⟩, trivial⟩) hF6 fun V7 a7 w7 B7 hO7 hB7 hk7 hr7 => ?_
      have z7 : w6.heap.size ≤ w7.heap.size := hk7.size
      obtain ⟨adV, nV, cpV, rfl⟩ : ∃ ad n cp, V7 = Value.slice ad n cp := by obtain ⟨x1, x2, h1⟩ := hO7.slice; exact ⟨_, _, _, h1⟩
      refine seg cfg47_ok mixed PanicFree.body 1000 [] [] hr7.rebase (by first | trivial | exact HpRep.nil | assumption) (by kernel_rfl) fun s_ hs_ => ?_
      simp (maxSteps := 10000000) [SX.vc, SX.stop, SX.contS, SX.contB, SX.contW, SX.contR, SX.contD, SX.sxStep, SX.stepPure, SX.stepNew, SX.stepStore, SX.stepKeep, SX.guardIx, SX.evOp, SX.opd, SX.opds, SX.optOpd, SX.look, SX.putS, SX.gobs, SX.AllP, SX.leave, SX.lookC, SX.lookB, SX.lookT, SX.lookN, SX.findK, SX.evBuiltin, SX.ints, SX.foldI, SX.evBin, SX.evInt, SX.evStr, SX.evEq, SX.arith, SX.evLoad, SX.shapeUp, SX.evFieldAddr, SX.evField, SX.evIndexAddr, SX.evIndex, SX.evFill, SX.evBuild, SX.szs, SX.cellsV, SX.evNew, SX.evStore, SX.spliceL, SX.SV.cells, SX.evConv, SX.evSlice, SX.bnd, SX.evNil, SX.evUn, SX.evPick, SX.pickOpd, SX.popTo, SX.cnd, SX.env0, SX.TD.isAgg, SX.TD.isIface, SX.tails, SX.NotAgg, SX.evLookup, SX.evConvH, SX.evPtrEq, SX.isCells, SX.thaw, SX.frz, SX.fixB, SX.rootIx, SX.Froz, SX.frzStep, SX.fork, Go.Value.cells, Go.undef, cfg47]
      refine ⟨by (unfold SX.Ob; first | trivial | omega | ((try simp only [SX.inK]); (try simp [SX.den, SX.IsU8, SX.AllP, *]); (try omega))), ?_⟩
      intro a8 w8 hr8' _
      have hr8 := hr7.unbase hr8'
      have z8 : w7.heap.size ≤ w8.heap.size := hr8'.keeps.size
      have hO8 := (hO7.mono (P' := fun x => (PA x ∨ w6.heap.size ≤ x) ∧ x < w7.heap.size) fun x h1 h2 => ⟨h2, h1⟩).keep hr8'.keeps (fun y hy hP' => by
        simp [frameAt, mutB] at hy
        rcases hy with rfl | rfl
        · exact hn0 hP'.1
        · exact hn1 hP'.1)
      have hP8 : ∀ y, ((PA y ∨ w6.heap.size ≤ y) ∧ y < w7.heap.size) → w.heap.size ≤ y ∧ y < w8.heap.size ∧ y ≠ c4 ∧ y ≠ c8 := fun y hy => by
        refine ⟨by simpa [frame0] using hF6 y hy.1, by omega, fun e => hn0 (e ▸ hy.1), fun e => hn1 (e ▸ hy.1)⟩
      exact post_rnd (t.L.length - (k + 1)) (by omega) ⟨k + 1, _, _, rfl, by omega, by rw [hf1]; exact hO8, hP8, hr8.re (by simp [envTo, SX.look, den]) (hr8.all.take 2) rfl rfl⟩
    · rw [show (neK key) x = false by simpa [neK] using hxn] at hf1
      simp only [Bool.false_eq_true, if_false, List.append_nil] at hf1
      refine seg cfg47_ok mixed PanicFree.body 1000 [true, false] [] h5.rebase (by first | trivial | exact HpRep.nil | assumption) (by kernel_rfl) fun sC hsC => ?_
      simp (maxSteps := 10000000) [SX.vc, SX.stop, SX.contS, SX.contB, SX.contW, SX.contR, SX.contD, SX.sxStep, SX.stepPure, SX.stepNew, SX.stepStore, SX.stepKeep, SX.guardIx, SX.evOp, SX.opd, SX.opds, SX.optOpd, SX.look, SX.putS, SX.gobs, SX.AllP, SX.leave, SX.lookC, SX.lookB, SX.lookT, SX.lookN, SX.findK, SX.evBuiltin, SX.ints, SX.foldI, SX.evBin, SX.evInt, SX.evStr, SX.evEq, SX.arith, SX.evLoad, SX.shapeUp, SX.evFieldAddr, SX.evField, SX.evIndexAddr, SX.evIndex, SX.evFill, SX.evBuild, SX.szs, SX.cellsV, SX.evNew, SX.evStore, SX.spliceL, SX.SV.cells, SX.evConv, SX.evSlice, SX.bnd, SX.evNil, SX.evUn, SX.evPick, SX.pickOpd, SX.popTo, SX.cnd, SX.env0, SX.TD.isAgg, SX.TD.isIface, SX.tails, SX.NotAgg, SX.evLookup, SX.evConvH, SX.evPtrEq, SX.isCells, SX.thaw, SX.frz, SX.fixB, SX.rootIx, SX.Froz, SX.frzStep, SX.fork, Go.Value.cells, Go.undef, cfg47, lseC, hx, hxn]
      refine ⟨by (unfold SX.Ob; first | trivial | omega | ((try simp only [SX.inK]); (try simp [SX.den, SX.IsU8, SX.AllP, *]); (try omega))), ?_⟩
      intro a6 w6 hr6' _
      have hr6 := h5.unbase hr6'
      have z6 : w4.heap.size ≤ w6.heap.size := hr6'.keeps.size
      have hO6 := hOA.keep hr6'.keeps (fun y hy hP' => by
        have g := hPA _ hP'
        simp [frameAt, mutB] at hy
        omega)
      exact post_rnd (t.L.length - (k + 1)) (by omega) ⟨k + 1, vr, PA, rfl, by omega, by rw [hf1]; exact hO6, fun y h => (by
        have := hPA y h
        omega), hr6.re (by simp [envTo, SX.look, den]) (hr6.all.take 2) rfl rfl⟩
  · obtain rfl : k = t.L.length := by omega
    rw [List.take_length] at hOA
    obtain ⟨adr, cpr, rfl⟩ := hOA.slice
    refine seg cfg47_ok mixed PanicFree.body 1000 [false] [] hr4.rebase (by first | trivial | exact HpRep.nil | assumption) (by kernel_rfl) fun s_ hs_ => ?_
    simp (maxSteps := 10000000) [SX.vc, SX.stop, SX.contS, SX.contB, SX.contW, SX.contR, SX.contD, SX.sxStep, SX.stepPure, SX.stepNew, SX.stepStore, SX.stepKeep, SX.guardIx, SX.evOp, SX.opd, SX.opds, SX.optOpd, SX.look, SX.putS, SX.gobs, SX.AllP, SX.leave, SX.lookC, SX.lookB, SX.lookT, SX.lookN, SX.findK, SX.evBuiltin, SX.ints, SX.foldI, SX.evBin, SX.evInt, SX.evStr, SX.evEq, SX.arith, SX.evLoad, SX.shapeUp, SX.evFieldAddr, SX.evField, SX.evIndexAddr, SX.evIndex, SX.evFill, SX.evBuild, SX.szs, SX.cellsV, SX.evNew, SX.evStore, SX.spliceL, SX.SV.cells, SX.evConv, SX.evSlice, SX.bnd, SX.evNil, SX.evUn, SX.evPick, SX.pickOpd, SX.popTo, SX.cnd, SX.env0, SX.TD.isAgg, SX.TD.isIface, SX.tails, SX.NotAgg, SX.evLookup, SX.evConvH, SX.evPtrEq, SX.isCells, SX.thaw, SX.frz, SX.fixB, SX.rootIx, SX.Froz, SX.frzStep, SX.fork, Go.Value.cells, Go.undef, cfg47]
    refine ⟨by (unfold SX.Ob; first | trivial | omega | ((try simp only [SX.inK]); (try simp [SX.den, SX.IsU8, SX.AllP, *]); (try omega))), ?_⟩
    intro a9 w9 hr9' _
    have hr9 := hr4.unbase hr9'
    have hOA9 := hOA.keep hr9'.keeps (fun y hy hP' => by
      have g := hPA _ hP'
      simp [frameAt, mutB] at hy
      omega)
    exact post_retn (endC2 hr9 rfl rfl rfl tok24 rfl rfl ⟨.slice adr (List.filter (neK key) t.L).length cpr, by rw [hE, hT]; simp [den, denL, tabC], by rw [hT]; exact hOA9.rd.mono fun x _ h => (hPA x h).1, hr9.keeps.toBelow⟩).1

def ltK (key : Int) (x : Lse) : Bool := decide (x.k < key)
def gtK (key : Int) (x : Lse) : Bool := decide (key < x.k)
def RGrLoop1 (w : World) (v : Value) (t : Tab) (key host ttl : Int) (ct c8 c9 c13 c14 : Nat) (m : Nat) (a : Act) (w' : World) : Prop :=
  ∃ (k : Nat) (vr : Value) (PA : Nat → Prop), m = t.L.length - k ∧ k ≤ t.L.length ∧ OwL PA w' vr ((t.L.take k).filter (ltK key)) ∧ (∀ x, PA x → w.heap.size ≤ x ∧ x < w'.heap.size ∧ x ≠ ct ∧ x ≠ c8 ∧ x ≠ c9 ∧ x ≠ c13 ∧ x ≠ c14) ∧ RepX (frame0 w) ⟨[(72, 0, .v (.int .i64 k)), (71, 0, .v (.int .i64 t.L.length)), (70, 0, .v v), (1, 0, .v (.int .i64 key)), (4, 0, .ptr 0 ct 0), (8, 0, .ptr 1 c8 0), (9, 0, .ptr 2 c9 0), (13, 0, .ptr 3 c13 0), (14, 0, .ptr 4 c14 0)], [(ct, true, .cells [.v (.int .i64 t.last), .v (.int .i64 t.now), .v v] 24), (c8, true, .cells [.v (.int .i64 0), .v (.int .i64 0), .v (.slice none 0 0)] 24), (c9, true, .cells [.v (.int .i64 0), .v (.int .i64 0), .v (.int .i64 0), .v (.int .i64 0)] 33), (c13, true, .cells [.v (.int .i64 key), .v (.int .i64 host), .v (.int .i64 (t.last + 1)), .v (.int .i64 (t.now + ttl))] 33), (c14, true, .cells [.v (.int .i64 (t.last + 1)), .v (.int .i64 t.now), .v vr] 24)], 0, 0, 113, [], [], []⟩ a w'

def RGrLoop2 (w : World) (v : Value) (t : Tab) (key host ttl : Int) (ct c8 c9 c13 c14 : Nat) (m : Nat) (a : Act) (w' : World) : Prop :=
  ∃ (k : Nat) (vr : Value) (PA : Nat → Prop), m = t.L.length - k ∧ k ≤ t.L.length ∧ OwL PA w' vr (t.L.filter (ltK key) ++ [newX t key host ttl] ++ (t.L.take k).filter (gtK key)) ∧ (∀ x, PA x → w.heap.size ≤ x ∧ x < w'.heap.size ∧ x ≠ ct ∧ x ≠ c8 ∧ x ≠ c9 ∧ x ≠ c13 ∧ x ≠ c14) ∧ RepX (frame0 w) ⟨[(96, 0, .v (.int .i64 k)), (95, 0, .v (.int .i64 t.L.length)), (94, 0, .v v), (1, 0, .v (.int .i64 key)), (4, 0, .ptr 0 ct 0), (8, 0, .ptr 1 c8 0), (9, 0, .ptr 2 c9 0), (13, 0, .ptr 3 c13 0), (14, 0, .ptr 4 c14 0)], [(ct, true, .cells [.v (.int .i64 t.last), .v (.int .i64 t.now), .v v] 24), (c8, true, .cells [.v (.int .i64 0), .v (.int .i64 0), .v (.slice none 0 0)] 24), (c9, true, .cells [.v (.int .i64 0), .v (.int .i64 0), .v (.int .i64 0), .v (.int .i64 0)] 33), (c13, true, .cells [.v (.int .i64 key), .v (.int .i64 host), .v (.int .i64 (t.last + 1)), .v (.int .i64 (t.now + ttl))] 33), (c14, true, .cells [.v (.int .i64 (t.last + 1)), .v (.int .i64 t.now), .v vr] 24)], 0, 0, 113, [], [], []⟩ a w'

set_option maxRecDepth 100000 in
set_option maxHeartbeats 64000000 in
/-- The document's Grant. -/
theorem rGrant_ok {P : Nat → Prop} (w : World) (v : Value) (t : Tab) (key host ttl : Int) (hL : RdL P w v t.L) (hn : t.L.length ≤ 100000) (hl1 : t.last ≤ 2305843009213693952) (hl2 : t.now ≤ 2305843009213693952) : Calls Try.prog 45 (denL [.ag (tabC t v), .v (.int .i64 key), .v (.int .i64 host), .v (.int .i64 ttl)]).toArray w (GrantR w t key host ttl) := by
  obtain ⟨ad, cp, rfl⟩ := hL.slice
  refine enter (F := frame0 w) Try.func45 rfl [.ag (tabC t (.slice ad t.L.length cp)), .v (.int .i64 key), .v (.int .i64 host), .v (.int .i64 ttl)] [] (by simp [Try.f45]) trivial (keeps0 w) fun a hr => ?_
  refine seg cfg45_ok mixed PanicFree.body 1000 [] [] hr (by first | trivial | exact HpRep.nil | assumption) (by kernel_rfl) fun sA hsA => ?_
  simp (maxSteps := 10000000) [SX.vc, SX.stop, SX.contS, SX.contB, SX.contW, SX.contR, SX.contD, SX.sxStep, SX.stepPure, SX.stepNew, SX.stepStore, SX.stepKeep, SX.guardIx, SX.evOp, SX.opd, SX.opds, SX.optOpd, SX.look, SX.putS, SX.gobs, SX.AllP, SX.leave, SX.lookC, SX.lookB, SX.lookT, SX.lookN, SX.findK, SX.evBuiltin, SX.ints, SX.foldI, SX.evBin, SX.evInt, SX.evStr, SX.evEq, SX.arith, SX.evLoad, SX.shapeUp, SX.evFieldAddr, SX.evField, SX.evIndexAddr, SX.evIndex, SX.evFill, SX.evBuild, SX.szs, SX.cellsV, SX.evNew, SX.evStore, SX.spliceL, SX.SV.cells, SX.evConv, SX.evSlice, SX.bnd, SX.evNil, SX.evUn, SX.evPick, SX.pickOpd, SX.popTo, SX.cnd, SX.env0, SX.TD.isAgg, SX.TD.isIface, SX.tails, SX.NotAgg, SX.evLookup, SX.evConvH, SX.evPtrEq, SX.isCells, SX.thaw, SX.frz, SX.fixB, SX.rootIx, SX.Froz, SX.frzStep, SX.fork, Go.Value.cells, Go.undef, cfg45, Try.f45, tabC]
  refine ⟨by (unfold SX.Ob; first | trivial | omega | ((try simp only [SX.inK]); (try simp [SX.den, SX.IsU8, SX.AllP, *]); (try omega))), ?_⟩
  intro a1 w1 hr1 _
  refine post_call 11 [.ag [.v (.int .i64 t.last), .v (.int .i64 t.now), .v (.slice ad t.L.length cp)]] hr1 (by first | exact wanted_none rfl | exact wanted_zero (hr1.env.same rfl rfl rfl rfl) rfl (by simp) | exact wanted_zero (hr1.env.same rfl rfl rfl rfl) rfl (by simp [*])) rfl (callable 11 Try.func11) (rcheck_ok w1 _ t (hL.below hr1.keeps.toBelow) (by omega)) ?_
  rintro e2 w2 ⟨rfl, hb2⟩
  refine ⟨_, rfl, ?_⟩
  have h2 := hr1.ret hb2 20 (.v (.int .i64 (chkT t))) rfl _ (hr1.all.below hb2) (by simp) rfl
  have bad : ¬ GrantOK t key host ttl → grantE t key host ttl = 1 ∧ grantX t key host ttl = lse0 ∧ grantT t key host ttl = tab0 := fun h => by
    have h1 : grantE t key host ttl = 1 := if_neg h
    exact ⟨h1, if_neg (by omega), if_neg (by omega)⟩
  by_cases hC : ChkT t
  rotate_left
  · have hc : chkT t = 1 := if_neg hC
    obtain ⟨hE, hX, hT⟩ := bad fun h => by exact hC h.1.2.2
    refine seg cfg45_ok mixed PanicFree.body 1000 [true] [(22, true), (26, true), (30, true), (34, true), (38, true)] h2 (by first | trivial | exact HpRep.nil | assumption) (by kernel_rfl) fun s_ hs_ => ?_
    simp (maxSteps := 10000000) [SX.vc, SX.stop, SX.contS, SX.contB, SX.contW, SX.contR, SX.contD, SX.sxStep, SX.stepPure, SX.stepNew, SX.stepStore, SX.stepKeep, SX.guardIx, SX.evOp, SX.opd, SX.opds, SX.optOpd, SX.look, SX.putS, SX.gobs, SX.AllP, SX.leave, SX.lookC, SX.lookB, SX.lookT, SX.lookN, SX.findK, SX.evBuiltin, SX.ints, SX.foldI, SX.evBin, SX.evInt, SX.evStr, SX.evEq, SX.arith, SX.evLoad, SX.shapeUp, SX.evFieldAddr, SX.evField, SX.evIndexAddr, SX.evIndex, SX.evFill, SX.evBuild, SX.szs, SX.cellsV, SX.evNew, SX.evStore, SX.spliceL, SX.SV.cells, SX.evConv, SX.evSlice, SX.bnd, SX.evNil, SX.evUn, SX.evPick, SX.pickOpd, SX.popTo, SX.cnd, SX.env0, SX.TD.isAgg, SX.TD.isIface, SX.tails, SX.NotAgg, SX.evLookup, SX.evConvH, SX.evPtrEq, SX.isCells, SX.thaw, SX.frz, SX.fixB, SX.rootIx, SX.Froz, SX.frzStep, SX.fork, Go.Value.cells, Go.undef, cfg45, hc]
    refine ⟨by (unfold SX.Ob; first | trivial | omega | ((try simp only [SX.inK]); (try simp [SX.den, SX.IsU8, SX.AllP, *]); (try omega))), ?_⟩
    intro a3 w3 hr3 _
    exact post_retn (endC3 hr3 rfl rfl rfl tok24 rfl rfl tok33 rfl rfl rfl ⟨.slice none 0 0, by rw [hE, hX, hT]; simp [den, denL, tabC, tab0, lseC, lse0], by rw [hT]; exact OwS.nil.rd, hr3.keeps.toBelow⟩).1
  have hc : chkT t = 0 := if_pos hC
  by_cases c1 : key < 0
  · obtain ⟨hE, hX, hT⟩ := bad fun h => by have := h.2.1; omega
    refine seg cfg45_ok mixed PanicFree.body 1000 [true] [(22, false), (26, true), (30, true), (34, true), (38, true)] h2 (by first | trivial | exact HpRep.nil | assumption) (by kernel_rfl) fun s_ hs_ => ?_
    simp (maxSteps := 10000000) [SX.vc, SX.stop, SX.contS, SX.contB, SX.contW, SX.contR, SX.contD, SX.sxStep, SX.stepPure, SX.stepNew, SX.stepStore, SX.stepKeep, SX.guardIx, SX.evOp, SX.opd, SX.opds, SX.optOpd, SX.look, SX.putS, SX.gobs, SX.AllP, SX.leave, SX.lookC, SX.lookB, SX.lookT, SX.lookN, SX.findK, SX.evBuiltin, SX.ints, SX.foldI, SX.evBin, SX.evInt, SX.evStr, SX.evEq, SX.arith, SX.evLoad, SX.shapeUp, SX.evFieldAddr, SX.evField, SX.evIndexAddr, SX.evIndex, SX.evFill, SX.evBuild, SX.szs, SX.cellsV, SX.evNew, SX.evStore, SX.spliceL, SX.SV.cells, SX.evConv, SX.evSlice, SX.bnd, SX.evNil, SX.evUn, SX.evPick, SX.pickOpd, SX.popTo, SX.cnd, SX.env0, SX.TD.isAgg, SX.TD.isIface, SX.tails, SX.NotAgg, SX.evLookup, SX.evConvH, SX.evPtrEq, SX.isCells, SX.thaw, SX.frz, SX.fixB, SX.rootIx, SX.Froz, SX.frzStep, SX.fork, Go.Value.cells, Go.undef, cfg45, hc, c1]
    refine ⟨by (unfold SX.Ob; first | trivial | omega | ((try simp only [SX.inK]); (try simp [SX.den, SX.IsU8, SX.AllP, *]); (try omega))), ?_⟩
    intro a3 w3 hr3 _
    exact post_retn (endC3 hr3 rfl rfl rfl tok24 rfl rfl tok33 rfl rfl rfl ⟨.slice none 0 0, by rw [hE, hX, hT]; simp [den, denL, tabC, tab0, lseC, lse0], by rw [hT]; exact OwS.nil.rd, hr3.keeps.toBelow⟩).1
  by_cases c2 : host < 0
  · obtain ⟨hE, hX, hT⟩ := bad fun h => by have := h.2.2.1; omega
    refine seg cfg45_ok mixed PanicFree.body 1000 [true] [(22, false), (26, false), (30, true), (34, true), (38, true)] h2 (by first | trivial | exact HpRep.nil | assumption) (by kernel_rfl) fun s_ hs_ => ?_
    simp (maxSteps := 10000000) [SX.vc, SX.stop, SX.contS, SX.contB, SX.contW, SX.contR, SX.contD, SX.sxStep, SX.stepPure, SX.stepNew, SX.stepStore, SX.stepKeep, SX.guardIx, SX.evOp, SX.opd, SX.opds, SX.optOpd, SX.look, SX.putS, SX.gobs, SX.AllP, SX.leave, SX.lookC, SX.lookB, SX.lookT, SX.lookN, SX.findK, SX.evBuiltin, SX.ints, SX.foldI, SX.evBin, SX.evInt, SX.evStr, SX.evEq, SX.arith, SX.evLoad, SX.shapeUp, SX.evFieldAddr, SX.evField, SX.evIndexAddr, SX.evIndex, SX.evFill, SX.evBuild, SX.szs, SX.cellsV, SX.evNew, SX.evStore, SX.spliceL, SX.SV.cells, SX.evConv, SX.evSlice, SX.bnd, SX.evNil, SX.evUn, SX.evPick, SX.pickOpd, SX.popTo, SX.cnd, SX.env0, SX.TD.isAgg, SX.TD.isIface, SX.tails, SX.NotAgg, SX.evLookup, SX.evConvH, SX.evPtrEq, SX.isCells, SX.thaw, SX.frz, SX.fixB, SX.rootIx, SX.Froz, SX.frzStep, SX.fork, Go.Value.cells, Go.undef, cfg45, hc, c1, c2]
    refine ⟨by (unfold SX.Ob; first | trivial | omega | ((try simp only [SX.inK]); (try simp [SX.den, SX.IsU8, SX.AllP, *]); (try omega))), ?_⟩
    intro a3 w3 hr3 _
    exact post_retn (endC3 hr3 rfl rfl rfl tok24 rfl rfl tok33 rfl rfl rfl ⟨.slice none 0 0, by rw [hE, hX, hT]; simp [den, denL, tabC, tab0, lseC, lse0], by rw [hT]; exact OwS.nil.rd, hr3.keeps.toBelow⟩).1
  by_cases c3 : 8 ≤ host
  · obtain ⟨hE, hX, hT⟩ := bad fun h => by have := h.2.2.2; omega
    refine seg cfg45_ok mixed PanicFree.body 1000 [true] [(22, false), (26, false), (30, false), (34, true), (38, true)] h2 (by first | trivial | exact HpRep.nil | assumption) (by kernel_rfl) fun s_ hs_ => ?_
    simp (maxSteps := 10000000) [SX.vc, SX.stop, SX.contS, SX.contB, SX.contW, SX.contR, SX.contD, SX.sxStep, SX.stepPure, SX.stepNew, SX.stepStore, SX.stepKeep, SX.guardIx, SX.evOp, SX.opd, SX.opds, SX.optOpd, SX.look, SX.putS, SX.gobs, SX.AllP, SX.leave, SX.lookC, SX.lookB, SX.lookT, SX.lookN, SX.findK, SX.evBuiltin, SX.ints, SX.foldI, SX.evBin, SX.evInt, SX.evStr, SX.evEq, SX.arith, SX.evLoad, SX.shapeUp, SX.evFieldAddr, SX.evField, SX.evIndexAddr, SX.evIndex, SX.evFill, SX.evBuild, SX.szs, SX.cellsV, SX.evNew, SX.evStore, SX.spliceL, SX.SV.cells, SX.evConv, SX.evSlice, SX.bnd, SX.evNil, SX.evUn, SX.evPick, SX.pickOpd, SX.popTo, SX.cnd, SX.env0, SX.TD.isAgg, SX.TD.isIface, SX.tails, SX.NotAgg, SX.evLookup, SX.evConvH, SX.evPtrEq, SX.isCells, SX.thaw, SX.frz, SX.fixB, SX.rootIx, SX.Froz, SX.frzStep, SX.fork, Go.Value.cells, Go.undef, cfg45, hc, c1, c2, c3]
    refine ⟨by (unfold SX.Ob; first | trivial | omega | ((try simp only [SX.inK]); (try simp [SX.den, SX.IsU8, SX.AllP, *]); (try omega))), ?_⟩
    intro a3 w3 hr3 _
    exact post_retn (endC3 hr3 rfl rfl rfl tok24 rfl rfl tok33 rfl rfl rfl ⟨.slice none 0 0, by rw [hE, hX, hT]; simp [den, denL, tabC, tab0, lseC, lse0], by rw [hT]; exact OwS.nil.rd, hr3.keeps.toBelow⟩).1
  by_cases c4 : ttl < 1
  · obtain ⟨hE, hX, hT⟩ := bad fun h => by have := h.1.1; omega
    refine seg cfg45_ok mixed PanicFree.body 1000 [true] [(22, false), (26, false), (30, false), (34, false), (38, true)] h2 (by first | trivial | exact HpRep.nil | assumption) (by kernel_rfl) fun s_ hs_ => ?_
    simp (maxSteps := 10000000) [SX.vc, SX.stop, SX.contS, SX.contB, SX.contW, SX.contR, SX.contD, SX.sxStep, SX.stepPure, SX.stepNew, SX.stepStore, SX.stepKeep, SX.guardIx, SX.evOp, SX.opd, SX.opds, SX.optOpd, SX.look, SX.putS, SX.gobs, SX.AllP, SX.leave, SX.lookC, SX.lookB, SX.lookT, SX.lookN, SX.findK, SX.evBuiltin, SX.ints, SX.foldI, SX.evBin, SX.evInt, SX.evStr, SX.evEq, SX.arith, SX.evLoad, SX.shapeUp, SX.evFieldAddr, SX.evField, SX.evIndexAddr, SX.evIndex, SX.evFill, SX.evBuild, SX.szs, SX.cellsV, SX.evNew, SX.evStore, SX.spliceL, SX.SV.cells, SX.evConv, SX.evSlice, SX.bnd, SX.evNil, SX.evUn, SX.evPick, SX.pickOpd, SX.popTo, SX.cnd, SX.env0, SX.TD.isAgg, SX.TD.isIface, SX.tails, SX.NotAgg, SX.evLookup, SX.evConvH, SX.evPtrEq, SX.isCells, SX.thaw, SX.frz, SX.fixB, SX.rootIx, SX.Froz, SX.frzStep, SX.fork, Go.Value.cells, Go.undef, cfg45, hc, c1, c2, c3, c4]
    refine ⟨by (unfold SX.Ob; first | trivial | omega | ((try simp only [SX.inK]); (try simp [SX.den, SX.IsU8, SX.AllP, *]); (try omega))), ?_⟩
    intro a3 w3 hr3 _
    exact post_retn (endC3 hr3 rfl rfl rfl tok24 rfl rfl tok33 rfl rfl rfl ⟨.slice none 0 0, by rw [hE, hX, hT]; simp [den, denL, tabC, tab0, lseC, lse0], by rw [hT]; exact OwS.nil.rd, hr3.keeps.toBelow⟩).1
  by_cases c5 : 1099511627776 < ttl
  · obtain ⟨hE, hX, hT⟩ := bad fun h => by have := h.1.2.1; omega
    refine seg cfg45_ok mixed PanicFree.body 1000 [true] [(22, false), (26, false), (30, false), (34, false), (38, false)] h2 (by first | trivial | exact HpRep.nil | assumption) (by kernel_rfl) fun s_ hs_ => ?_
    simp (maxSteps := 10000000) [SX.vc, SX.stop, SX.contS, SX.contB, SX.contW, SX.contR, SX.contD, SX.sxStep, SX.stepPure, SX.stepNew, SX.stepStore, SX.stepKeep, SX.guardIx, SX.evOp, SX.opd, SX.opds, SX.optOpd, SX.look, SX.putS, SX.gobs, SX.AllP, SX.leave, SX.lookC, SX.lookB, SX.lookT, SX.lookN, SX.findK, SX.evBuiltin, SX.ints, SX.foldI, SX.evBin, SX.evInt, SX.evStr, SX.evEq, SX.arith, SX.evLoad, SX.shapeUp, SX.evFieldAddr, SX.evField, SX.evIndexAddr, SX.evIndex, SX.evFill, SX.evBuild, SX.szs, SX.cellsV, SX.evNew, SX.evStore, SX.spliceL, SX.SV.cells, SX.evConv, SX.evSlice, SX.bnd, SX.evNil, SX.evUn, SX.evPick, SX.pickOpd, SX.popTo, SX.cnd, SX.env0, SX.TD.isAgg, SX.TD.isIface, SX.tails, SX.NotAgg, SX.evLookup, SX.evConvH, SX.evPtrEq, SX.isCells, SX.thaw, SX.frz, SX.fixB, SX.rootIx, SX.Froz, SX.frzStep, SX.fork, Go.Value.cells, Go.undef, cfg45, hc, c1, c2, c3, c4, c5]
    refine ⟨by (unfold SX.Ob; first | trivial | omega | ((try simp only [SX.inK]); (try simp [SX.den, SX.IsU8, SX.AllP, *]); (try omega))), ?_⟩
    intro a3 w3 hr3 _
    exact post_retn (endC3 hr3 rfl rfl rfl tok24 rfl rfl tok33 rfl rfl rfl ⟨.slice none 0 0, by rw [hE, hX, hT]; simp [den, denL, tabC, tab0, lseC, lse0], by rw [hT]; exact OwS.nil.rd, hr3.keeps.toBelow⟩).1
  have hOK : GrantOK t key host ttl := ⟨⟨by omega, by omega, hC⟩, by omega, by omega, by omega⟩
  have hl0 := hC.2.1
  have hn0 := hC.2.2
  refine seg cfg45_ok mixed PanicFree.body 1000 [false] [(22, false), (26, false), (30, false), (34, false), (38, false)] h2 (by first | trivial | exact HpRep.nil | assumption) (by kernel_rfl) fun s_ hs_ => ?_
  simp (maxSteps := 10000000) [SX.vc, SX.stop, SX.contS, SX.contB, SX.contW, SX.contR, SX.contD, SX.sxStep, SX.stepPure, SX.stepNew, SX.stepStore, SX.stepKeep, SX.guardIx, SX.evOp, SX.opd, SX.opds, SX.optOpd, SX.look, SX.putS, SX.gobs, SX.AllP, SX.leave, SX.lookC, SX.lookB, SX.lookT, SX.lookN, SX.findK, SX.evBuiltin, SX.ints, SX.foldI, SX.evBin, SX.evInt, SX.evStr, SX.evEq, SX.arith, SX.evLoad, SX.shapeUp, SX.evFieldAddr, SX.evField, SX.evIndexAddr, SX.evIndex, SX.evFill, SX.evBuild, SX.szs, SX.cellsV, SX.evNew, SX.evStore, SX.spliceL, SX.SV.cells, SX.evConv, SX.evSlice, SX.bnd, SX.evNil, SX.evUn, SX.evPick, SX.pickOpd, SX.popTo, SX.cnd, SX.env0, SX.TD.isAgg, SX.TD.isIface, SX.tails, SX.NotAgg, SX.evLookup, SX.evConvH, SX.evPtrEq, SX.isCells, SX.thaw, SX.frz, SX.fixB, SX.rootIx, SX.Froz, SX.frzStep, SX.fork, Go.Value.cells, Go.undef, cfg45, hc, c1, c2, c3, c4, c5]
  refine ⟨by (unfold SX.Ob; first | trivial | omega | ((try simp only [SX.inK]); (try simp [SX.den, SX.IsU8, SX.AllP, *]); (try omega))), ?_⟩
  intro a3 w3 hr3 _
  refine post_call 20 [.ag [.v (.int .i64 t.last), .v (.int .i64 t.now), .v (.slice ad t.L.length cp)], .v (.int .i64 key)] hr3 (by first | exact wanted_none rfl | exact wanted_zero (hr3.env.same rfl rfl rfl rfl) rfl (by simp) | exact wanted_zero (hr3.env.same rfl rfl rfl rfl) rfl (by simp [*])) rfl (callable 20 Try.func20) (rHolder_ok w3 _ t key (hL.below hr3.keeps.toBelow) (by omega)) ?_
  rintro e4 w4 ⟨rfl, hb4⟩
  refine ⟨_, rfl, ?_⟩
  have h4 := hr3.ret hb4 47 (.tu [.ag (lseC (holdX t key)), .v (.bool (decide (HasT t key)))]) rfl _ (hr3.all.below hb4) (by simp) rfl
  by_cases hH : HasK t.L key
  · have hE : grantE t key host ttl = 60 := by rw [grantE, if_pos hOK, if_pos hH]
    have hX : grantX t key host ttl = lse0 := if_neg (by omega)
    have hT : grantT t key host ttl = tab0 := if_neg (by omega)
    have hHT : HasT t key := ⟨hC, hH⟩
    refine seg cfg45_ok mixed PanicFree.body 1000 [true] [] h4 (by first | trivial | exact HpRep.nil | assumption) (by kernel_rfl) fun s_ hs_ => ?_
    simp (maxSteps := 10000000) [SX.vc, SX.stop, SX.contS, SX.contB, SX.contW, SX.contR, SX.contD, SX.sxStep, SX.stepPure, SX.stepNew, SX.stepStore, SX.stepKeep, SX.guardIx, SX.evOp, SX.opd, SX.opds, SX.optOpd, SX.look, SX.putS, SX.gobs, SX.AllP, SX.leave, SX.lookC, SX.lookB, SX.lookT, SX.lookN, SX.findK, SX.evBuiltin, SX.ints, SX.foldI, SX.evBin, SX.evInt, SX.evStr, SX.evEq, SX.arith, SX.evLoad, SX.shapeUp, SX.evFieldAddr, SX.evField, SX.evIndexAddr, SX.evIndex, SX.evFill, SX.evBuild, SX.szs, SX.cellsV, SX.evNew, SX.evStore, SX.spliceL, SX.SV.cells, SX.evConv, SX.evSlice, SX.bnd, SX.evNil, SX.evUn, SX.evPick, SX.pickOpd, SX.popTo, SX.cnd, SX.env0, SX.TD.isAgg, SX.TD.isIface, SX.tails, SX.NotAgg, SX.evLookup, SX.evConvH, SX.evPtrEq, SX.isCells, SX.thaw, SX.frz, SX.fixB, SX.rootIx, SX.Froz, SX.frzStep, SX.fork, Go.Value.cells, Go.undef, cfg45, hHT, lseC]
    refine ⟨by (unfold SX.Ob; first | trivial | omega | ((try simp only [SX.inK]); (try simp [SX.den, SX.IsU8, SX.AllP, *]); (try omega))), ?_⟩
    intro a5 w5 hr5 _
    exact post_retn (endC3 hr5 rfl rfl rfl tok24 rfl rfl tok33 rfl rfl rfl ⟨.slice none 0 0, by rw [hE, hX, hT]; simp [den, denL, tabC, tab0, lseC, lse0], by rw [hT]; exact OwS.nil.rd, hr5.keeps.toBelow⟩).1
  have hE : grantE t key host ttl = 0 := by rw [grantE, if_pos hOK, if_neg hH]
  have hX : grantX t key host ttl = newX t key host ttl := if_pos hE
  have hT : grantT t key host ttl = ⟨t.last + 1, t.now, t.L.filter (ltK key) ++ [newX t key host ttl] ++ t.L.filter (gtK key)⟩ := (if_pos hE).trans (by rw [List.append_assoc]; rfl)
  have hHT : ¬ HasT t key := fun h => hH h.2
  refine seg cfg45_ok mixed PanicFree.body 1000 [false] [] h4 (by first | trivial | exact HpRep.nil | assumption) (by kernel_rfl) fun sB hsB => ?_
  simp (maxSteps := 10000000) [SX.vc, SX.stop, SX.contS, SX.contB, SX.contW, SX.contR, SX.contD, SX.sxStep, SX.stepPure, SX.stepNew, SX.stepStore, SX.stepKeep, SX.guardIx, SX.evOp, SX.opd, SX.opds, SX.optOpd, SX.look, SX.putS, SX.gobs, SX.AllP, SX.leave, SX.lookC, SX.lookB, SX.lookT, SX.lookN, SX.findK, SX.evBuiltin, SX.ints, SX.foldI, SX.evBin, SX.evInt, SX.evStr, SX.evEq, SX.arith, SX.evLoad, SX.shapeUp, SX.evFieldAddr, SX.evField, SX.evIndexAddr, SX.evIndex, SX.evFill, SX.evBuild, SX.szs, SX.cellsV, SX.evNew, SX.evStore, SX.spliceL, SX.SV.cells, SX.evConv, SX.evSlice, SX.bnd, SX.evNil, SX.evUn, SX.evPick, SX.pickOpd, SX.popTo, SX.cnd, SX.env0, SX.TD.isAgg, SX.TD.isIface, SX.tails, SX.NotAgg, SX.evLookup, SX.evConvH, SX.evPtrEq, SX.isCells, SX.thaw, SX.frz, SX.fixB, SX.rootIx, SX.Froz, SX.frzStep, SX.fork, Go.Value.cells, Go.undef, cfg45, hHT, lseC]
  refine ⟨by (unfold SX.Ob; first | trivial | omega | ((try simp only [SX.inK]); (try simp [SX.den, SX.IsU8, SX.AllP, *]); (try omega))), ?_⟩
  intro a5 w5 hr5 _
  generalize hct : sA = ct at hr5
  generalize hc8 : ct + 1 = c8 at hr5
  generalize hc9 : ct + 2 = c9 at hr5
  generalize hc13 : sB + 1 = c13 at hr5
  generalize hc14 : sB + 2 = c14 at hr5
  have hA5 := hr5.all
  refine post_loop (RGrLoop1 w (.slice ad t.L.length cp) t key host ttl ct c8 c9 c13 c14) t.L.length ⟨0, .slice none 0 0, fun _ => False, rfl, by omega, OwS.nil, fun _ h => h.elim, hr5.re (by simp [envTo, SX.look, den]) ⟨⟨hA5.1.1, hA5.1.2.1, by have e := hA5.1.2.2; simp at e ⊢; omega⟩, ⟨hA5.2.1.1, hA5.2.1.2.1, by have e := hA5.2.1.2.2; simp at e ⊢; omega⟩, ⟨hA5.2.2.1.1, hA5.2.2.1.2.1, by have e := hA5.2.2.1.2.2; simp at e ⊢; omega⟩, ⟨hA5.2.2.2.2.1.1, hA5.2.2.2.2.1.2.1, by have e := hA5.2.2.2.2.1.2.2; simp at e ⊢; omega⟩, ⟨hA5.2.2.2.2.2.1.1, hA5.2.2.2.2.2.1.2.1, by simp⟩, trivial⟩ rfl rfl⟩ ?_
  rintro m a4 w4 ⟨k, vr, PA, rfl, hk, hOA, hPA, hr4⟩
  have z4 : w.heap.size ≤ w4.heap.size := hr4.keeps.size
  by_cases hlt : k < t.L.length
  · have hwl : (List.filter (ltK key) (List.take k t.L)).length ≤ 100000 := Nat.le_trans (List.length_filter_le _ _) (by simp; omega)
    obtain ⟨b, o0, cap, u, fz, hP, hv, hrep⟩ := hL.opn hlt
    cases hv
    have hbw := SO.rep_lt hrep
    have hrep4 := SO.rep_same hrep (hr4.keeps.toBelow.block _ hbw)
    obtain ⟨x, hx⟩ : ∃ x, nth lse0 t.L k = x := ⟨_, rfl⟩
    have hA4 := hr4.all
    have g0 : w.heap.size ≤ ct := by
      have h := hA4.1.2.1 rfl
      simpa [frame0] using h
    have g1 : w.heap.size ≤ c8 := by
      have h := hA4.2.1.2.1 rfl
      simpa [frame0] using h
    have g2 : w.heap.size ≤ c9 := by
      have h := hA4.2.2.1.2.1 rfl
      simpa [frame0] using h
    have g3 : w.heap.size ≤ c13 := by
      have h := hA4.2.2.2.1.2.1 rfl
      simpa [frame0] using h
    have g4 : w.heap.size ≤ c14 := by
      have h := hA4.2.2.2.2.1.2.1 rfl
      simpa [frame0] using h
    have h5 := (hr4.top 70 (.sl 5 b o0 0 t.L.length cp 4) rfl (by simp [den])).see [(ct, true, .cells [.v (.int .i64 t.last), .v (.int .i64 t.now), .v _] 24), (c8, true, .cells [.v (.int .i64 0), .v (.int .i64 0), .v (.slice none 0 0)] 24), (c9, true, .cells [.v (.int .i64 0), .v (.int .i64 0), .v (.int .i64 0), .v (.int .i64 0)] 33), (c13, true, .cells [.v (.int .i64 key), .v (.int .i64 host), .v (.int .i64 (t.last + 1)), .v (.int .i64 (t.now + ttl))] 33), (c14, true, .cells [.v (.int .i64 (t.last + 1)), .v (.int .i64 t.now), .v vr] 24), (b, false, .arr o0 t.L.length (fun j => lseC (nth lse0 t.L j)) 4 u fz)] ⟨⟨hA4.1.1, hA4.1.2.1, by have e := hA4.1.2.2; simp at e ⊢; omega⟩, ⟨hA4.2.1.1, hA4.2.1.2.1, by have e := hA4.2.1.2.2; simp at e ⊢; omega⟩, ⟨hA4.2.2.1.1, hA4.2.2.1.2.1, by have e := hA4.2.2.1.2.2; simp at e ⊢; omega⟩, ⟨hA4.2.2.2.1.1, hA4.2.2.2.1.2.1, by have e := hA4.2.2.2.1.2.2; simp at e ⊢; omega⟩, ⟨hA4.2.2.2.2.1.1, hA4.2.2.2.2.1.2.1, by have e := hA4.2.2.2.2.1.2.2; simp at e ⊢; omega⟩, HpAll.one hrep4⟩
    have hf1 := filter_takeL (p := ltK key) hlt hx
    by_cases hxn : x.k < key
    · rw [show (ltK key) x = true by simpa [ltK] using hxn, if_pos rfl] at hf1
      refine seg cfg45_ok mixed PanicFree.body 1000 [true, true] [] h5.rebase (by first | trivial | exact HpRep.nil | assumption) (by kernel_rfl) fun sC hsC => ?_
      simp (maxSteps := 10000000) [SX.vc, SX.stop, SX.contS, SX.contB, SX.contW, SX.contR, SX.contD, SX.sxStep, SX.stepPure, SX.stepNew, SX.stepStore, SX.stepKeep, SX.guardIx, SX.evOp, SX.opd, SX.opds, SX.optOpd, SX.look, SX.putS, SX.gobs, SX.AllP, SX.leave, SX.lookC, SX.lookB, SX.lookT, SX.lookN, SX.findK, SX.evBuiltin, SX.ints, SX.foldI, SX.evBin, SX.evInt, SX.evStr, SX.evEq, SX.arith, SX.evLoad, SX.shapeUp, SX.evFieldAddr, SX.evField, SX.evIndexAddr, SX.evIndex, SX.evFill, SX.evBuild, SX.szs, SX.cellsV, SX.evNew, SX.evStore, SX.spliceL, SX.SV.cells, SX.evConv, SX.evSlice, SX.bnd, SX.evNil, SX.evUn, SX.evPick, SX.pickOpd, SX.popTo, SX.cnd, SX.env0, SX.TD.isAgg, SX.TD.isIface, SX.tails, SX.NotAgg, SX.evLookup, SX.evConvH, SX.evPtrEq, SX.isCells, SX.thaw, SX.frz, SX.fixB, SX.rootIx, SX.Froz, SX.frzStep, SX.fork, Go.Value.cells, Go.undef, cfg45, lseC, hx, hxn]
      refine ⟨by (unfold SX.Ob; first | trivial | omega | ((try simp only [SX.inK]); (try simp [SX.den, SX.IsU8, SX.AllP, *]); (try omega))), ?_⟩
      intro a6 w6 hr6' _
      have hr6 := h5.unbase hr6'
      have z6 : w4.heap.size ≤ w6.heap.size := hr6'.keeps.size
      have hO6 := (hOA.keep hr6'.keeps (fun y hy hP' => by
        have g := hPA _ hP'
        simp [frameAt, mutB] at hy
        omega)).mono (P' := fun x => PA x ∨ w6.heap.size ≤ x) fun x _ h => .inl h
      have hA6 := hr6.all
      have hn0 : ¬ (PA ct ∨ w6.heap.size ≤ ct) := fun h => by
        have g := SO.rep_lt hA4.1.1
        rcases h with h | h
        · exact absurd rfl (hPA _ h).2.2.1
        · omega
      have hn1 : ¬ (PA c8 ∨ w6.heap.size ≤ c8) := fun h => by
        have g := SO.rep_lt hA4.2.1.1
        rcases h with h | h
        · exact absurd rfl (hPA _ h).2.2.2.1
        · omega
      have hn2 : ¬ (PA c9 ∨ w6.heap.size ≤ c9) := fun h => by
        have g := SO.rep_lt hA4.2.2.1.1
        rcases h with h | h
        · exact absurd rfl (hPA _ h).2.2.2.2.1
        · omega
      have hn3 : ¬ (PA c13 ∨ w6.heap.size ≤ c13) := fun h => by
        have g := SO.rep_lt hA4.2.2.2.1.1
        rcases h with h | h
        · exact absurd rfl (hPA _ h).2.2.2.2.2.1
        · omega
      have hn4 : ¬ (PA c14 ∨ w6.heap.size ≤ c14) := fun h => by
        have g := SO.rep_lt hA4.2.2.2.2.1.1
        rcases h with h | h
        · exact absurd rfl (hPA _ h).2.2.2.2.2.2
        · omega
      have hF6 : ∀ x, (PA x ∨ w6.heap.size ≤ x) → (frame0 w).B ≤ x ∨ x ∈ (frame0 w).M := fun x hx => .inl (by
        show w.heap.size ≤ x
        rcases hx with h | h
        · exact (hPA _ h).1
        · omega)
      have hd01 : ct ≠ c8 := by have e := hA4.1.2.2; simp at e; omega
      have hd02 : ct ≠ c9 := by have e := hA4.1.2.2; simp at e; omega
      have hd03 : ct ≠ c13 := by have e := hA4.1.2.2; simp at e; omega
      have hd04 : ct ≠ c14 := by have e := hA4.1.2.2; simp at e; omega
      have hd12 : c8 ≠ c9 := by have e := hA4.2.1.2.2; simp at e; omega
      have hd13 : c8 ≠ c13 := by have e := hA4.2.1.2.2; simp at e; omega
      have hd14 : c8 ≠ c14 := by have e := hA4.2.1.2.2; simp at e; omega
      have hd23 : c9 ≠ c13 := by have e := hA4.2.2.1.2.2; simp at e; omega
      have hd24 : c9 ≠ c14 := by have e := hA4.2.2.1.2.2; simp at e; omega
      have hd34 : c13 ≠ c14 := by have e := hA4.2.2.2.1.2.2; simp at e; omega
      refine post_app (C := cfg45) cfg45_ok hr6 (by first | exact wanted_none rfl | exact wanted_zero (hr6.env.same rfl rfl rfl rfl) rfl (by simp)) rfl (by simp) rfl rfl rfl rfl rfl rfl rfl rfl rfl (by decide) (flatL _) (by (try simp only [List.length_append, List.length_cons, List.length_nil, List.length_map, List.length_take]); omega) (fun x hx => .inr hx) hO6 (RdS.lit (enc := lseC) (sz := 4) (d := lse0) (x := x) hr6.all.2.2.2.2.2.2.2.1.1 (by simp [lseC])) [(ct, true, .cells [.v (.int .i64 t.last), .v (.int .i64 t.now), .v _] 24), (c8, true, .cells [.v (.int .i64 0), .v (.int .i64 0), .v (.slice none 0 0)] 24), (c9, true, .cells [.v (.int .i64 0), .v (.int .i64 0), .v (.int .i64 0), .v (.int .i64 0)] 33), (c13, true, .cells [.v (.int .i64 key), .v (.int .i64 host), .v (.int .i64 (t.last + 1)), .v (.int .i64 (t.now + ttl))] 33), (c14, true, .cells [.v (.int .i64 (t.last + 1)), .v (.int .i64 t.now), .v vr] 24)] (fun w' B hk hB' => ⟨⟨KeepsTo.same hk hA6.1.1 (fun h => hn0 (hB' _ h).1), hA6.1.2.1, by simp [hd01, hd02, hd03, hd04]⟩, ⟨KeepsTo.same hk hA6.2.1.1 (fun h => hn1 (hB' _ h).1), hA6.2.1.2.1, by simp [hd12, hd13, hd14]⟩, ⟨KeepsTo.same hk hA6.2.2.1.1 (fun h => hn2 (hB' _ h).1), hA6.2.2.1.2.1, by simp [hd23, hd24]⟩, ⟨KeepsTo.same hk hA6.2.2.2.1.1 (fun h => hn3 (hB' _ h).1), hA6.2.2.2.1.2.1, by simp [hd34]⟩, ⟨KeepsTo.same hk hA6.2.2.2.2.1.1 (fun h => hn4 (hB' _ h).1), hA6.2.2.2.2.1.2.1, by simp⟩, trivial⟩) hF6 fun V7 a7 w7 B7 hO7 hB7 hk7 hr7 => ?_
      have z7 : w6.heap.size ≤ w7.heap.size := hk7.size
      obtain ⟨adV, nV, cpV, rfl⟩ : ∃ ad n cp, V7 = Value.slice ad n cp := by obtain ⟨x1, x2, h1⟩ := hO7.slice; exact ⟨_, _, _, h1⟩
      refine seg cfg45_ok mixed PanicFree.body 1000 [] [] hr7.rebase (by first | trivial | exact HpRep.nil | assumption) (by kernel_rfl) fun s_ hs_ => ?_
      simp (maxSteps := 10000000) [SX.vc, SX.stop, SX.contS, SX.contB, SX.contW, SX.contR, SX.contD, SX.sxStep, SX.stepPure, SX.stepNew, SX.stepStore, SX.stepKeep, SX.guardIx, SX.evOp, SX.opd, SX.opds, SX.optOpd, SX.look, SX.putS, SX.gobs, SX.AllP, SX.leave, SX.lookC, SX.lookB, SX.lookT, SX.lookN, SX.findK, SX.evBuiltin, SX.ints, SX.foldI, SX.evBin, SX.evInt, SX.evStr, SX.evEq, SX.arith, SX.evLoad, SX.shapeUp, SX.evFieldAddr, SX.evField, SX.evIndexAddr, SX.evIndex, SX.evFill, SX.evBuild, SX.szs, SX.cellsV, SX.evNew, SX.evStore, SX.spliceL, SX.SV.cells, SX.evConv, SX.evSlice, SX.bnd, SX.evNil, SX.evUn, SX.evPick, SX.pickOpd, SX.popTo, SX.cnd, SX.env0, SX.TD.isAgg, SX.TD.isIface, SX.tails, SX.NotAgg, SX.evLookup, SX.evConvH, SX.evPtrEq, SX.isCells, SX.thaw, SX.frz, SX.fixB, SX.rootIx, SX.Froz, SX.frzStep, SX.fork, Go.Value.cells, Go.undef, cfg45]
      refine ⟨by (unfold SX.Ob; first | trivial | omega | ((try simp only [SX.inK]); (try simp [SX.den, SX.IsU8, SX.AllP, *]); (try omega))), ?_⟩
      intro a8 w8 hr8' _
      have hr8 := hr7.unbase hr8'
      have z8 : w7.heap.size ≤ w8.heap.size := hr8'.keeps.size
      have hO8 := (hO7.mono (P' := fun x => (PA x ∨ w6.heap.size ≤ x) ∧ x < w7.heap.size) fun x h1 h2 => ⟨h2, h1⟩).keep hr8'.keeps (fun y hy hP' => by
        simp [frameAt, mutB] at hy
        rcases hy with rfl | rfl | rfl | rfl | rfl
        · exact hn0 hP'.1
        · exact hn1 hP'.1
        · exact hn2 hP'.1
        · exact hn3 hP'.1
        · exact hn4 hP'.1)
      have hP8 : ∀ y, ((PA y ∨ w6.heap.size ≤ y) ∧ y < w7.heap.size) → w.heap.size ≤ y ∧ y < w8.heap.size ∧ y ≠ ct ∧ y ≠ c8 ∧ y ≠ c9 ∧ y ≠ c13 ∧ y ≠ c14 := fun y hy => by
        refine ⟨by simpa [frame0] using hF6 y hy.1, by omega, fun e => hn0 (e ▸ hy.1), fun e => hn1 (e ▸ hy.1), fun e => hn2 (e ▸ hy.1), fun e => hn3 (e ▸ hy.1), fun e => hn4 (e ▸ hy.1)⟩
      exact post_rnd (t.L.length - (k + 1)) (by omega) ⟨k + 1, _, _, rfl, by omega, by rw [hf1]; exact hO8, hP8, hr8.re (by simp [envTo, SX.look, den]) (hr8.all.take 5) rfl rfl⟩
    · rw [show (ltK key) x = false by simpa [ltK] using hxn] at hf1
      simp only [Bool.false_eq_true, if_false, List.append_nil] at hf1
      refine seg cfg45_ok mixed PanicFree.body 1000 [true, false] [] h5.rebase (by first | trivial | exact HpRep.nil | assumption) (by kernel_rfl) fun sC hsC => ?_
      simp (maxSteps := 10000000) [SX.vc, SX.stop, SX.contS, SX.contB, SX.contW, SX.contR, SX.contD, SX.sxStep, SX.stepPure, SX.stepNew, SX.stepStore, SX.stepKeep, SX.guardIx, SX.evOp, SX.opd, SX.opds, SX.optOpd, SX.look, SX.putS, SX.gobs, SX.AllP, SX.leave, SX.lookC, SX.lookB, SX.lookT, SX.lookN, SX.findK, SX.evBuiltin, SX.ints, SX.foldI, SX.evBin, SX.evInt, SX.evStr, SX.evEq, SX.arith, SX.evLoad, SX.shapeUp, SX.evFieldAddr, SX.evField, SX.evIndexAddr, SX.evIndex, SX.evFill, SX.evBuild, SX.szs, SX.cellsV, SX.evNew, SX.evStore, SX.spliceL, SX.SV.cells, SX.evConv, SX.evSlice, SX.bnd, SX.evNil, SX.evUn, SX.evPick, SX.pickOpd, SX.popTo, SX.cnd, SX.env0, SX.TD.isAgg, SX.TD.isIface, SX.tails, SX.NotAgg, SX.evLookup, SX.evConvH, SX.evPtrEq, SX.isCells, SX.thaw, SX.frz, SX.fixB, SX.rootIx, SX.Froz, SX.frzStep, SX.fork, Go.Value.cells, Go.undef, cfg45, lseC, hx, hxn]
      refine ⟨by (unfold SX.Ob; first | trivial | omega | ((try simp only [SX.inK]); (try simp [SX.den, SX.IsU8, SX.AllP, *]); (try omega))), ?_⟩
      intro a6 w6 hr6' _
      have hr6 := h5.unbase hr6'
      have z6 : w4.heap.size ≤ w6.heap.size := hr6'.keeps.size
      have hO6 := hOA.keep hr6'.keeps (fun y hy hP' => by
        have g := hPA _ hP'
        simp [frameAt, mutB] at hy
        omega)
      exact post_rnd (t.L.length - (k + 1)) (by omega) ⟨k + 1, vr, PA, rfl, by omega, by rw [hf1]; exact hO6, fun y h => (by
        have := hPA y h
        omega), hr6.re (by simp [envTo, SX.look, den]) (hr6.all.take 5) rfl rfl⟩
  obtain rfl : k = t.L.length := by omega
  rw [List.take_length] at hOA
  obtain ⟨adr, cpr, rfl⟩ := hOA.slice
  have hA4 := hr4.all
  have hwl : (List.filter (ltK key) t.L).length ≤ 100000 := Nat.le_trans (List.length_filter_le _ _) hn
  have g0 : w.heap.size ≤ ct := by
    have h := hA4.1.2.1 rfl
    simpa [frame0] using h
  have g1 : w.heap.size ≤ c8 := by
    have h := hA4.2.1.2.1 rfl
    simpa [frame0] using h
  have g2 : w.heap.size ≤ c9 := by
    have h := hA4.2.2.1.2.1 rfl
    simpa [frame0] using h
  have g3 : w.heap.size ≤ c13 := by
    have h := hA4.2.2.2.1.2.1 rfl
    simpa [frame0] using h
  have g4 : w.heap.size ≤ c14 := by
    have h := hA4.2.2.2.2.1.2.1 rfl
    simpa [frame0] using h
  refine seg cfg45_ok mixed PanicFree.body 1000 [false] [] hr4.rebase (by first | trivial | exact HpRep.nil | assumption) (by kernel_rfl) fun sC hsC => ?_
  simp (maxSteps := 10000000) [SX.vc, SX.stop, SX.contS, SX.contB, SX.contW, SX.contR, SX.contD, SX.sxStep, SX.stepPure, SX.stepNew, SX.stepStore, SX.stepKeep, SX.guardIx, SX.evOp, SX.opd, SX.opds, SX.optOpd, SX.look, SX.putS, SX.gobs, SX.AllP, SX.leave, SX.lookC, SX.lookB, SX.lookT, SX.lookN, SX.findK, SX.evBuiltin, SX.ints, SX.foldI, SX.evBin, SX.evInt, SX.evStr, SX.evEq, SX.arith, SX.evLoad, SX.shapeUp, SX.evFieldAddr, SX.evField, SX.evIndexAddr, SX.evIndex, SX.evFill, SX.evBuild, SX.szs, SX.cellsV, SX.evNew, SX.evStore, SX.spliceL, SX.SV.cells, SX.evConv, SX.evSlice, SX.bnd, SX.evNil, SX.evUn, SX.evPick, SX.pickOpd, SX.popTo, SX.cnd, SX.env0, SX.TD.isAgg, SX.TD.isIface, SX.tails, SX.NotAgg, SX.evLookup, SX.evConvH, SX.evPtrEq, SX.isCells, SX.thaw, SX.frz, SX.fixB, SX.rootIx, SX.Froz, SX.frzStep, SX.fork, Go.Value.cells, Go.undef, cfg45, lseC]
  refine ⟨by (unfold SX.Ob; first | trivial | omega | ((try simp only [SX.inK]); (try simp [SX.den, SX.IsU8, SX.AllP, *]); (try omega))), ?_⟩
  intro a6 w6 hr6' _
  have hr6 := hr4.unbase hr6'
  have z6 : w4.heap.size ≤ w6.heap.size := hr6'.keeps.size
  have hO6 := (hOA.keep hr6'.keeps (fun y hy hP' => by
    have g := hPA _ hP'
    simp [frameAt, mutB] at hy
    omega)).mono (P' := fun x => PA x ∨ w6.heap.size ≤ x) fun x _ h => .inl h
  have hA6 := hr6.all
  have hn0 : ¬ (PA ct ∨ w6.heap.size ≤ ct) := fun h => by
    have g := SO.rep_lt hA4.1.1
    rcases h with h | h
    · exact absurd rfl (hPA _ h).2.2.1
    · omega
  have hn1 : ¬ (PA c8 ∨ w6.heap.size ≤ c8) := fun h => by
    have g := SO.rep_lt hA4.2.1.1
    rcases h with h | h
    · exact absurd rfl (hPA _ h).2.2.2.1
    · omega
  have hn2 : ¬ (PA c9 ∨ w6.heap.size ≤ c9) := fun h => by
    have g := SO.rep_lt hA4.2.2.1.1
    rcases h with h | h
    · exact absurd rfl (hPA _ h).2.2.2.2.1
    · omega
  have hn3 : ¬ (PA c13 ∨ w6.heap.size ≤ c13) := fun h => by
    have g := SO.rep_lt hA4.2.2.2.1.1
    rcases h with h | h
    · exact absurd rfl (hPA _ h).2.2.2.2.2.1
    · omega
  have hn4 : ¬ (PA c14 ∨ w6.heap.size ≤ c14) := fun h => by
    have g := SO.rep_lt hA4.2.2.2.2.1.1
    rcases h with h | h
    · exact absurd rfl (hPA _ h).2.2.2.2.2.2
    · omega
  have hF6 : ∀ x, (PA x ∨ w6.heap.size ≤ x) → (frame0 w).B ≤ x ∨ x ∈ (frame0 w).M := fun x hx => .inl (by
    show w.heap.size ≤ x
    rcases hx with h | h
    · exact (hPA _ h).1
    · omega)
  have hd01 : ct ≠ c8 := by have e := hA4.1.2.2; simp at e; omega
  have hd02 : ct ≠ c9 := by have e := hA4.1.2.2; simp at e; omega
  have hd03 : ct ≠ c13 := by have e := hA4.1.2.2; simp at e; omega
  have hd04 : ct ≠ c14 := by have e := hA4.1.2.2; simp at e; omega
  have hd12 : c8 ≠ c9 := by have e := hA4.2.1.2.2; simp at e; omega
  have hd13 : c8 ≠ c13 := by have e := hA4.2.1.2.2; simp at e; omega
  have hd14 : c8 ≠ c14 := by have e := hA4.2.1.2.2; simp at e; omega
  have hd23 : c9 ≠ c13 := by have e := hA4.2.2.1.2.2; simp at e; omega
  have hd24 : c9 ≠ c14 := by have e := hA4.2.2.1.2.2; simp at e; omega
  have hd34 : c13 ≠ c14 := by have e := hA4.2.2.2.1.2.2; simp at e; omega
  refine post_app (C := cfg45) cfg45_ok hr6 (by first | exact wanted_none rfl | exact wanted_zero (hr6.env.same rfl rfl rfl rfl) rfl (by simp)) rfl (by simp) rfl rfl rfl rfl rfl rfl rfl rfl rfl (by decide) (flatL _) (by (try simp only [List.length_append, List.length_cons, List.length_nil, List.length_map, List.length_take]); omega) (fun x hx => .inr hx) hO6 (RdS.lit (enc := lseC) (sz := 4) (d := lse0) (x := newX t key host ttl) hr6.all.2.2.2.2.2.1.1 (by simp [lseC, newX])) [(ct, true, .cells [.v (.int .i64 t.last), .v (.int .i64 t.now), .v _] 24), (c8, true, .cells [.v (.int .i64 0), .v (.int .i64 0), .v (.slice none 0 0)] 24), (c9, true, .cells [.v (.int .i64 0), .v (.int .i64 0), .v (.int .i64 0), .v (.int .i64 0)] 33), (c13, true, .cells [.v (.int .i64 key), .v (.int .i64 host), .v (.int .i64 (t.last + 1)), .v (.int .i64 (t.now + ttl))] 33), (c14, true, .cells [.v (.int .i64 (t.last + 1)), .v (.int .i64 t.now), .v (.slice adr (List.filter (ltK key) t.L).length cpr)] 24)] (fun w' B hk hB' => ⟨⟨KeepsTo.same hk hA6.1.1 (fun h => hn0 (hB' _ h).1), hA6.1.2.1, by simp [hd01, hd02, hd03, hd04]⟩, ⟨KeepsTo.same hk hA6.2.1.1 (fun h => hn1 (hB' _ h).1), hA6.2.1.2.1, by simp [hd12, hd13, hd14]⟩, ⟨KeepsTo.same hk hA6.2.2.1.1 (fun h => hn2 (hB' _ h).1), hA6.2.2.1.2.1, by simp [hd23, hd24]⟩, ⟨KeepsTo.same hk hA6.2.2.2.1.1 (fun h => hn3 (hB' _ h).1), hA6.2.2.2.1.2.1, by simp [hd34]⟩, ⟨KeepsTo.same hk hA6.2.2.2.2.1.1 (fun h => hn4 (hB' _ h).1), hA6.2.2.2.2.1.2.1, by simp⟩, trivial⟩) hF6 fun V7 a7 w7 B7 hO7 hB7 hk7 hr7 => ?_
  have z7 : w6.heap.size ≤ w7.heap.size := hk7.size
  obtain ⟨adV, nV, cpV, rfl⟩ : ∃ ad n cp, V7 = Value.slice ad n cp := by obtain ⟨x1, x2, h1⟩ := hO7.slice; exact ⟨_, _, _, h1⟩
  refine seg cfg45_ok mixed PanicFree.body 1000 [] [] hr7.rebase (by first | trivial | exact HpRep.nil | assumption) (by kernel_rfl) fun s_ hs_ => ?_
  simp (maxSteps := 10000000) [SX.vc, SX.stop, SX.contS, SX.contB, SX.contW, SX.contR, SX.contD, SX.sxStep, SX.stepPure, SX.stepNew, SX.stepStore, SX.stepKeep, SX.guardIx, SX.evOp, SX.opd, SX.opds, SX.optOpd, SX.look, SX.putS, SX.gobs, SX.AllP, SX.leave, SX.lookC, SX.lookB, SX.lookT, SX.lookN, SX.findK, SX.evBuiltin, SX.ints, SX.foldI, SX.evBin, SX.evInt, SX.evStr, SX.evEq, SX.arith, SX.evLoad, SX.shapeUp, SX.evFieldAddr, SX.evField, SX.evIndexAddr, SX.evIndex, SX.evFill, SX.evBuild, SX.szs, SX.cellsV, SX.evNew, SX.evStore, SX.spliceL, SX.SV.cells, SX.evConv, SX.evSlice, SX.bnd, SX.evNil, SX.evUn, SX.evPick, SX.pickOpd, SX.popTo, SX.cnd, SX.env0, SX.TD.isAgg, SX.TD.isIface, SX.tails, SX.NotAgg, SX.evLookup, SX.evConvH, SX.evPtrEq, SX.isCells, SX.thaw, SX.frz, SX.fixB, SX.rootIx, SX.Froz, SX.frzStep, SX.fork, Go.Value.cells, Go.undef, cfg45]
  refine ⟨by (unfold SX.Ob; first | trivial | omega | ((try simp only [SX.inK]); (try simp [SX.den, SX.IsU8, SX.AllP, *]); (try omega))), ?_⟩
  intro a8 w8 hr8' _
  have hr8 := hr7.unbase hr8'
  have z8 : w7.heap.size ≤ w8.heap.size := hr8'.keeps.size
  have hO8 := (hO7.mono (P' := fun x => (PA x ∨ w6.heap.size ≤ x) ∧ x < w7.heap.size) fun x h1 h2 => ⟨h2, h1⟩).keep hr8'.keeps (fun y hy hP' => by
    simp [frameAt, mutB] at hy
    rcases hy with rfl | rfl | rfl | rfl | rfl
    · exact hn0 hP'.1
    · exact hn1 hP'.1
    · exact hn2 hP'.1
    · exact hn3 hP'.1
    · exact hn4 hP'.1)
  have hP8 : ∀ y, ((PA y ∨ w6.heap.size ≤ y) ∧ y < w7.heap.size) → w.heap.size ≤ y ∧ y < w8.heap.size ∧ y ≠ ct ∧ y ≠ c8 ∧ y ≠ c9 ∧ y ≠ c13 ∧ y ≠ c14 := fun y hy => by
    refine ⟨by simpa [frame0] using hF6 y hy.1, by omega, fun e => hn0 (e ▸ hy.1), fun e => hn1 (e ▸ hy.1), fun e => hn2 (e ▸ hy.1), fun e => hn3 (e ▸ hy.1), fun e => hn4 (e ▸ hy.1)⟩
  have hA8 := hr8.all
  refine post_loop (RGrLoop2 w (.slice ad t.L.length cp) t key host ttl ct c8 c9 c13 c14) t.L.length ⟨0, _, _, rfl, by omega, (by
    simp only [List.take_zero, List.filter_nil, List.append_nil]
    exact hO8), hP8, hr8.re (by simp [envTo, SX.look, den]) ⟨⟨hA8.1.1, hA8.1.2.1, by have e := hA8.1.2.2; simp at e ⊢; omega⟩, ⟨hA8.2.1.1, hA8.2.1.2.1, by have e := hA8.2.1.2.2; simp at e ⊢; omega⟩, ⟨hA8.2.2.1.1, hA8.2.2.1.2.1, by have e := hA8.2.2.1.2.2; simp at e ⊢; omega⟩, ⟨hA8.2.2.2.1.1, hA8.2.2.2.1.2.1, by have e := hA8.2.2.2.1.2.2; simp at e ⊢; omega⟩, ⟨hA8.2.2.2.2.1.1, hA8.2.2.2.2.1.2.1, by simp⟩, trivial⟩ rfl rfl⟩ ?_
  clear hr4 hO8 hP8 hOA hPA hr6 hr7 hr8 hA4 hA6 hA8 hr6' hr8' hO6 hO7 hF6 hB7 hk7 hwl hr5 hA5
  clear hn0 hn1 hn2 hn3 hn4
  rintro m aq w4 ⟨k, vr, PA, rfl, hk, hOA, hPA, hr4⟩
  have z4 : w.heap.size ≤ w4.heap.size := hr4.keeps.size
  by_cases hlt : k < t.L.length
  · have hwl : (List.filter (gtK key) (List.take k t.L)).length ≤ 100000 := Nat.le_trans (List.length_filter_le _ _) (by simp; omega)
    have hwl2 : (List.filter (ltK key) t.L).length ≤ 100000 := Nat.le_trans (List.length_filter_le _ _) hn
    obtain ⟨b, o0, cap, u, fz, hP, hv, hrep⟩ := hL.opn hlt
    cases hv
    have hbw := SO.rep_lt hrep
    have hrep4 := SO.rep_same hrep (hr4.keeps.toBelow.block _ hbw)
    obtain ⟨x, hx⟩ : ∃ x, nth lse0 t.L k = x := ⟨_, rfl⟩
    have hA4 := hr4.all
    have g0 : w.heap.size ≤ ct := by
      have h := hA4.1.2.1 rfl
      simpa [frame0] using h
    have g1 : w.heap.size ≤ c8 := by
      have h := hA4.2.1.2.1 rfl
      simpa [frame0] using h
    have g2 : w.heap.size ≤ c9 := by
      have h := hA4.2.2.1.2.1 rfl
      simpa [frame0] using h
    have g3 : w.heap.size ≤ c13 := by
      have h := hA4.2.2.2.1.2.1 rfl
      simpa [frame0] using h
    have g4 : w.heap.size ≤ c14 := by
      have h := hA4.2.2.2.2.1.2.1 rfl
      simpa [frame0] using h
    have h5 := (hr4.top 94 (.sl 5 b o0 0 t.L.length cp 4) rfl (by simp [den])).see [(ct, true, .cells [.v (.int .i64 t.last), .v (.int .i64 t.now), .v _] 24), (c8, true, .cells [.v (.int .i64 0), .v (.int .i64 0), .v (.slice none 0 0)] 24), (c9, true, .cells [.v (.int .i64 0), .v (.int .i64 0), .v (.int .i64 0), .v (.int .i64 0)] 33), (c13, true, .cells [.v (.int .i64 key), .v (.int .i64 host), .v (.int .i64 (t.last + 1)), .v (.int .i64 (t.now + ttl))] 33), (c14, true, .cells [.v (.int .i64 (t.last + 1)), .v (.int .i64 t.now), .v vr] 24), (b, false, .arr o0 t.L.length (fun j => lseC (nth lse0 t.L j)) 4 u fz)] ⟨⟨hA4.1.1, hA4.1.2.1, by have e := hA4.1.2.2; simp at e ⊢; omega⟩, ⟨hA4.2.1.1, hA4.2.1.2.1, by have e := hA4.2.1.2.2; simp at e ⊢; omega⟩, ⟨hA4.2.2.1.1, hA4.2.2.1.2.1, by have e := hA4.2.2.1.2.2; simp at e ⊢; omega⟩, ⟨hA4.2.2.2.1.1, hA4.2.2.2.1.2.1, by have e := hA4.2.2.2.1.2.2; simp at e ⊢; omega⟩, ⟨hA4.2.2.2.2.1.1, hA4.2.2.2.2.1.2.1, by have e := hA4.2.2.2.2.1.2.2; simp at e ⊢; omega⟩, HpAll.one hrep4⟩
    have hf1 := filter_takeL (p := gtK key) hlt hx
    by_cases hxn : key < x.k
    · rw [show (gtK key) x = true by simpa [gtK] using hxn, if_pos rfl] at hf1
      refine seg cfg45_ok mixed PanicFree.body 1000 [true, true] [] h5.rebase (by first | trivial | exact HpRep.nil | assumption) (by kernel_rfl) fun sC hsC => ?_
      simp (maxSteps := 10000000) [SX.vc, SX.stop, SX.contS, SX.contB, SX.contW, SX.contR, SX.contD, SX.sxStep, SX.stepPure, SX.stepNew, SX.stepStore, SX.stepKeep, SX.guardIx, SX.evOp, SX.opd, SX.opds, SX.optOpd, SX.look, SX.putS, SX.gobs, SX.AllP, SX.leave, SX.lookC, SX.lookB, SX.lookT, SX.lookN, SX.findK, SX.evBuiltin, SX.ints, SX.foldI, SX.evBin, SX.evInt, SX.evStr, SX.evEq, SX.arith, SX.evLoad, SX.shapeUp, SX.evFieldAddr, SX.evField, SX.evIndexAddr, SX.evIndex, SX.evFill, SX.evBuild, SX.szs, SX.cellsV, SX.evNew, SX.evStore, SX.spliceL, SX.SV.cells, SX.evConv, SX.evSlice, SX.bnd, SX.evNil, SX.evUn, SX.evPick, SX.pickOpd, SX.popTo, SX.cnd, SX.env0, SX.TD.isAgg, SX.TD.isIface, SX.tails, SX.NotAgg, SX.evLookup, SX.evConvH, SX.evPtrEq, SX.isCells, SX.thaw, SX.frz, SX.fixB, SX.rootIx, SX.Froz, SX.frzStep, SX.fork, Go.Value.cells, Go.undef, cfg45, lseC, hx, hxn]
      refine ⟨by (unfold SX.Ob; first | trivial | omega | ((try simp only [SX.inK]); (try simp [SX.den, SX.IsU8, SX.AllP, *]); (try omega))), ?_⟩
      intro a6 w6 hr6' _
      have hr6 := h5.unbase hr6'
      have z6 : w4.heap.size ≤ w6.heap.size := hr6'.keeps.size
      have hO6 := (hOA.keep hr6'.keeps (fun y hy hP' => by
        have g := hPA _ hP'
        simp [frameAt, mutB] at hy
        omega)).mono (P' := fun x => PA x ∨ w6.heap.size ≤ x) fun x _ h => .inl h
      have hA6 := hr6.all
      have hn0 : ¬ (PA ct ∨ w6.heap.size ≤ ct) := fun h => by
        have g := SO.rep_lt hA4.1.1
        rcases h with h | h
        · exact absurd rfl (hPA _ h).2.2.1
        · omega
      have hn1 : ¬ (PA c8 ∨ w6.heap.size ≤ c8) := fun h => by
        have g := SO.rep_lt hA4.2.1.1
        rcases h with h | h
        · exact absurd rfl (hPA _ h).2.2.2.1
        · omega
      have hn2 : ¬ (PA c9 ∨ w6.heap.size ≤ c9) := fun h => by
        have g := SO.rep_lt hA4.2.2.1.1
        rcases h with h | h
        · exact absurd rfl (hPA _ h).2.2.2.2.1
        · omega
      have hn3 : ¬ (PA c13 ∨ w6.heap.size ≤ c13) := fun h => by
        have g := SO.rep_lt hA4.2.2.2.1.1
        rcases h with h | h
        · exact absurd rfl (hPA _ h).2.2.2.2.2.1
        · omega
      have hn4 : ¬ (PA c14 ∨ w6.heap.size ≤ c14) := fun h => by
        have g := SO.rep_lt hA4.2.2.2.2.1.1
        rcases h with h | h
        · exact absurd rfl (hPA _ h).2.2.2.2.2.2
        · omega
      have hF6 : ∀ x, (PA x ∨ w6.heap.size ≤ x) → (frame0 w).B ≤ x ∨ x ∈ (frame0 w).M := fun x hx => .inl (by
        show w.heap.size ≤ x
        rcases hx with h | h
        · exact (hPA _ h).1
        · omega)
      have hd01 : ct ≠ c8 := by have e := hA4.1.2.2; simp at e; omega
      have hd02 : ct ≠ c9 := by have e := hA4.1.2.2; simp at e; omega
      have hd03 : ct ≠ c13 := by have e := hA4.1.2.2; simp at e; omega
      have hd04 : ct ≠ c14 := by have e := hA4.1.2.2; simp at e; omega
      have hd12 : c8 ≠ c9 := by have e := hA4.2.1.2.2; simp at e; omega
      have hd13 : c8 ≠ c13 := by have e := hA4.2.1.2.2; simp at e; omega
      have hd14 : c8 ≠ c14 := by have e := hA4.2.1.2.2; simp at e; omega
      have hd23 : c9 ≠ c13 := by have e := hA4.2.2.1.2.2; simp at e; omega
      have hd24 : c9 ≠ c14 := by have e := hA4.2.2.1.2.2; simp at e; omega
      have hd34 : c13 ≠ c14 := by have e := hA4.2.2.2.1.2.2; simp at e; omega
      refine post_app (C := cfg45) cfg45_ok hr6 (by first | exact wanted_none rfl | exact wanted_zero (hr6.env.same rfl rfl rfl rfl) rfl (by simp)) rfl (by simp) rfl rfl rfl rfl rfl rfl rfl rfl rfl (by decide) (flatL _) (by (try simp only [List.length_append, List.length_cons, List.length_nil, List.length_map, List.length_take]); omega) (fun x hx => .inr hx) hO6 (RdS.lit (enc := lseC) (sz := 4) (d := lse0) (x := x) hr6.all.2.2.2.2.2.2.2.1.1 (by simp [lseC])) [(ct, true, .cells [.v (.int .i64 t.last), .v (.int .i64 t.now), .v _] 24), (c8, true, .cells [.v (.int .i64 0), .v (.int .i64 0), .v (.slice none 0 0)] 24), (c9, true, .cells [.v (.int .i64 0), .v (.int .i64 0), .v (.int .i64 0), .v (.int .i64 0)] 33), (c13, true, .cells [.v (.int .i64 key), .v (.int .i64 host), .v (.int .i64 (t.last + 1)), .v (.int .i64 (t.now + ttl))] 33), (c14, true, .cells [.v (.int .i64 (t.last + 1)), .v (.int .i64 t.now), .v vr] 24)] (fun w' B hk hB' => ⟨⟨KeepsTo.same hk hA6.1.1 (fun h => hn0 (hB' _ h).1), hA6.1.2.1, by simp [hd01, hd02, hd03, hd04]⟩, ⟨KeepsTo.same hk hA6.2.1.1 (fun h => hn1 (hB' _ h).1), hA6.2.1.2.1, by simp [hd12, hd13, hd14]⟩, ⟨KeepsTo.same hk hA6.2.2.1.1 (fun h => hn2 (hB' _ h).1), hA6.2.2.1.2.1, by simp [hd23, hd24]⟩, ⟨KeepsTo.same hk hA6.2.2.2.1.1 (fun h => hn3 (hB' _ h).1), hA6.2.2.2.1.2.1, by simp [hd34]⟩, ⟨KeepsTo.same hk hA6.2.2.2.2.1.1 (fun h => hn4 (hB' _ h).1), hA6.2.2.2.2.1.2.1, by simp⟩, trivial⟩) hF6 fun V7 a7 w7 B7 hO7 hB7 hk7 hr7 => ?_
      have z7 : w6.heap.size ≤ w7.heap.size := hk7.size
      obtain ⟨adV, nV, cpV, rfl⟩ : ∃ ad n cp, V7 = Value.slice ad n cp := by obtain ⟨x1, x2, h1⟩ := hO7.slice; exact ⟨_, _, _, h1⟩
      refine seg cfg45_ok mixed PanicFree.body 1000 [] [] hr7.rebase (by first | trivial | exact HpRep.nil | assumption) (by kernel_rfl) fun s_ hs_ => ?_
      simp (maxSteps := 10000000) [SX.vc, SX.stop, SX.contS, SX.contB, SX.contW, SX.contR, SX.contD, SX.sxStep, SX.stepPure, SX.stepNew, SX.stepStore, SX.stepKeep, SX.guardIx, SX.evOp, SX.opd, SX.opds, SX.optOpd, SX.look, SX.putS, SX.gobs, SX.AllP, SX.leave, SX.lookC, SX.lookB, SX.lookT, SX.lookN, SX.findK, SX.evBuiltin, SX.ints, SX.foldI, SX.evBin, SX.evInt, SX.evStr, SX.evEq, SX.arith, SX.evLoad, SX.shapeUp, SX.evFieldAddr, SX.evField, SX.evIndexAddr, SX.evIndex, SX.evFill, SX.evBuild, SX.szs, SX.cellsV, SX.evNew, SX.evStore, SX.spliceL, SX.SV.cells, SX.evConv, SX.evSlice, SX.bnd, SX.evNil, SX.evUn, SX.evPick, SX.pickOpd, SX.popTo, SX.cnd, SX.env0, SX.TD.isAgg, SX.TD.isIface, SX.tails, SX.NotAgg, SX.evLookup, SX.evConvH, SX.evPtrEq, SX.isCells, SX.thaw, SX.frz, SX.fixB, SX.rootIx, SX.Froz, SX.frzStep, SX.fork, Go.Value.cells, Go.undef, cfg45]
      refine ⟨by (unfold SX.Ob; first | trivial | omega | ((try simp only [SX.inK]); (try simp [SX.den, SX.IsU8, SX.AllP, *]); (try omega))), ?_⟩
      intro a8 w8 hr8' _
      have hr8 := hr7.unbase hr8'
      have z8 : w7.heap.size ≤ w8.heap.size := hr8'.keeps.size
      have hO8 := (hO7.mono (P' := fun x => (PA x ∨ w6.heap.size ≤ x) ∧ x < w7.heap.size) fun x h1 h2 => ⟨h2, h1⟩).keep hr8'.keeps (fun y hy hP' => by
        simp [frameAt, mutB] at hy
        rcases hy with rfl | rfl | rfl | rfl | rfl
        · exact hn0 hP'.1
        · exact hn1 hP'.1
        · exact hn2 hP'.1
        · exact hn3 hP'.1
        · exact hn4 hP'.1)
      have hP8 : ∀ y, ((PA y ∨ w6.heap.size ≤ y) ∧ y < w7.heap.size) → w.heap.size ≤ y ∧ y < w8.heap.size ∧ y ≠ ct ∧ y ≠ c8 ∧ y ≠ c9 ∧ y ≠ c13 ∧ y ≠ c14 := fun y hy => by
        refine ⟨by simpa [frame0] using hF6 y hy.1, by omega, fun e => hn0 (e ▸ hy.1), fun e => hn1 (e ▸ hy.1), fun e => hn2 (e ▸ hy.1), fun e => hn3 (e ▸ hy.1), fun e => hn4 (e ▸ hy.1)⟩
      exact post_rnd (t.L.length - (k + 1)) (by omega) ⟨k + 1, _, _, rfl, by omega, by rw [hf1]; rw [← List.append_assoc]; exact hO8, hP8, hr8.re (by simp [envTo, SX.look, den]) (hr8.all.take 5) rfl rfl⟩
    · rw [show (gtK key) x = false by simpa [gtK] using hxn] at hf1
      simp only [Bool.false_eq_true, if_false, List.append_nil] at hf1
      refine seg cfg45_ok mixed PanicFree.body 1000 [true, false] [] h5.rebase (by first | trivial | exact HpRep.nil | assumption) (by kernel_rfl) fun sC hsC => ?_
      simp (maxSteps := 10000000) [SX.vc, SX.stop, SX.contS, SX.contB, SX.contW, SX.contR, SX.contD, SX.sxStep, SX.stepPure, SX.stepNew, SX.stepStore, SX.stepKeep, SX.guardIx, SX.evOp, SX.opd, SX.opds, SX.optOpd, SX.look, SX.putS, SX.gobs, SX.AllP, SX.leave, SX.lookC, SX.lookB, SX.lookT, SX.lookN, SX.findK, SX.evBuiltin, SX.ints, SX.foldI, SX.evBin, SX.evInt, SX.evStr, SX.evEq, SX.arith, SX.evLoad, SX.shapeUp, SX.evFieldAddr, SX.evField, SX.evIndexAddr, SX.evIndex, SX.evFill, SX.evBuild, SX.szs, SX.cellsV, SX.evNew, SX.evStore, SX.spliceL, SX.SV.cells, SX.evConv, SX.evSlice, SX.bnd, SX.evNil, SX.evUn, SX.evPick, SX.pickOpd, SX.popTo, SX.cnd, SX.env0, SX.TD.isAgg, SX.TD.isIface, SX.tails, SX.NotAgg, SX.evLookup, SX.evConvH, SX.evPtrEq, SX.isCells, SX.thaw, SX.frz, SX.fixB, SX.rootIx, SX.Froz, SX.frzStep, SX.fork, Go.Value.cells, Go.undef, cfg45, lseC, hx, hxn]
      refine ⟨by (unfold SX.Ob; first | trivial | omega | ((try simp only [SX.inK]); (try simp [SX.den, SX.IsU8, SX.AllP, *]); (try omega))), ?_⟩
      intro a6 w6 hr6' _
      have hr6 := h5.unbase hr6'
      have z6 : w4.heap.size ≤ w6.heap.size := hr6'.keeps.size
      have hO6 := hOA.keep hr6'.keeps (fun y hy hP' => by
        have g := hPA _ hP'
        simp [frameAt, mutB] at hy
        omega)
      exact post_rnd (t.L.length - (k + 1)) (by omega) ⟨k + 1, vr, PA, rfl, by omega, by rw [hf1]; exact hO6, fun y h => (by
        have := hPA y h
        omega), hr6.re (by simp [envTo, SX.look, den]) (hr6.all.take 5) rfl rfl⟩
  · obtain rfl : k = t.L.length := by omega
    rw [List.take_length] at hOA
    obtain ⟨adr, nr, cpr, rfl⟩ : ∃ ad n cp, vr = Value.slice ad n cp := by obtain ⟨x1, x2, h1⟩ := hOA.slice; exact ⟨_, _, _, h1⟩
    refine seg cfg45_ok mixed PanicFree.body 1000 [false] [] hr4.rebase (by first | trivial | exact HpRep.nil | assumption) (by kernel_rfl) fun s_ hs_ => ?_
    simp (maxSteps := 10000000) [SX.vc, SX.stop, SX.contS, SX.contB, SX.contW, SX.contR, SX.contD, SX.sxStep, SX.stepPure, SX.stepNew, SX.stepStore, SX.stepKeep, SX.guardIx, SX.evOp, SX.opd, SX.opds, SX.optOpd, SX.look, SX.putS, SX.gobs, SX.AllP, SX.leave, SX.lookC, SX.lookB, SX.lookT, SX.lookN, SX.findK, SX.evBuiltin, SX.ints, SX.foldI, SX.evBin, SX.evInt, SX.evStr, SX.evEq, SX.arith, SX.evLoad, SX.shapeUp, SX.evFieldAddr, SX.evField, SX.evIndexAddr, SX.evIndex, SX.evFill, SX.evBuild, SX.szs, SX.cellsV, SX.evNew, SX.evStore, SX.spliceL, SX.SV.cells, SX.evConv, SX.evSlice, SX.bnd, SX.evNil, SX.evUn, SX.evPick, SX.pickOpd, SX.popTo, SX.cnd, SX.env0, SX.TD.isAgg, SX.TD.isIface, SX.tails, SX.NotAgg, SX.evLookup, SX.evConvH, SX.evPtrEq, SX.isCells, SX.thaw, SX.frz, SX.fixB, SX.rootIx, SX.Froz, SX.frzStep, SX.fork, Go.Value.cells, Go.undef, cfg45]
    refine ⟨by (unfold SX.Ob; first | trivial | omega | ((try simp only [SX.inK]); (try simp [SX.den, SX.IsU8, SX.AllP, *]); (try omega))), ?_⟩
    intro a9 w9 hr9' ht9
    have hr9 := hr4.unbase hr9'
    have hOA9 := hOA.keep hr9'.keeps (fun y hy hP' => by
      have g := hPA _ hP'
      simp [frameAt, mutB] at hy
      omega)
    exact post_retn (endC3 hr9 rfl rfl rfl tok24 rfl rfl tok33 rfl rfl rfl ⟨.slice adr nr cpr, by rw [hE, hX, hT]; simp [den, denL, tabC, lseC, newX], by rw [hT]; exact hOA9.rd.mono fun x _ h => (hPA x h).1, hr9.keeps.toBelow⟩).1

end Go.Proofs
