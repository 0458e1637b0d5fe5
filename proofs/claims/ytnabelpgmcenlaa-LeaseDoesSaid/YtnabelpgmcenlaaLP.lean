/- Leases: Holder; something that is done. -/
import Derived.Test.YtnabelpgmcenlaaLO
namespace Go.Proofs
set_option linter.unusedVariables false
set_option linter.unusedSimpArgs false
open Go Go.SX Go.RowKit

def HasT (t : Tab) (key : Int) : Prop := ChkT t ∧ HasK t.L key
instance (t : Tab) (key : Int) : Decidable (HasT t key) := by unfold HasT; infer_instance
def holdX (t : Tab) (key : Int) : Lse := if HasT t key then getK t.L key else lse0
def HoldR (w : World) (t : Tab) (key : Int) (e : Ending) (w' : World) : Prop := e = .returned (den (.tu [.ag (lseC (holdX t key)), .v (.bool (decide (HasT t key)))])) ∧ Below w.heap.size w w'

set_option maxRecDepth 100000 in
set_option maxHeartbeats 16000000 in
/-- Holder. -/
theorem Holder_ok {P : Nat → Prop} (w : World) (v : Value) (t : Tab) (key : Int) (hL : RdL P w v t.L) (hn : t.L.length ≤ 100000) : Calls Try.prog 21 (denL [.ag (tabC t v), .v (.int .i64 key)]).toArray w (HoldR w t key) := by
  refine enter (F := frame0 w) Try.func21 rfl [.ag (tabC t v), .v (.int .i64 key)] [] (by simp [Try.f21]) trivial (keeps0 w) fun a hr => ?_
  obtain ⟨ad, cp, rfl⟩ := hL.slice
  refine seg cfg21_ok mixed PanicFree.body 1000 [] [] hr (by first | trivial | exact HpRep.nil | assumption) (by kernel_rfl) fun sA hsA => ?_
  simp (maxSteps := 10000000) [SX.vc, SX.stop, SX.contS, SX.contB, SX.contW, SX.contR, SX.contD, SX.sxStep, SX.stepPure, SX.stepNew, SX.stepStore, SX.stepKeep, SX.guardIx, SX.evOp, SX.opd, SX.opds, SX.optOpd, SX.look, SX.putS, SX.gobs, SX.AllP, SX.leave, SX.lookC, SX.lookB, SX.lookT, SX.lookN, SX.findK, SX.evBuiltin, SX.ints, SX.foldI, SX.evBin, SX.evInt, SX.evStr, SX.evEq, SX.arith, SX.evLoad, SX.shapeUp, SX.evFieldAddr, SX.evField, SX.evIndexAddr, SX.evIndex, SX.evFill, SX.evBuild, SX.szs, SX.cellsV, SX.evNew, SX.evStore, SX.spliceL, SX.SV.cells, SX.evConv, SX.evSlice, SX.bnd, SX.evNil, SX.evUn, SX.evPick, SX.pickOpd, SX.popTo, SX.cnd, SX.env0, SX.TD.isAgg, SX.TD.isIface, SX.tails, SX.NotAgg, SX.evLookup, SX.evConvH, SX.evPtrEq, SX.isCells, SX.thaw, SX.frz, SX.fixB, SX.rootIx, SX.Froz, SX.frzStep, SX.fork, Go.Value.cells, Go.undef, cfg21, Try.f21, tabC]
  refine ⟨by (unfold SX.Ob; first | trivial | omega | ((try simp only [SX.inK]); (try simp [SX.den, SX.IsU8, SX.AllP, *]); (try omega))), ?_⟩
  intro a1 w1 hr1 _
  refine post_call 40 [.ag [.v (.int .i64 t.last), .v (.int .i64 t.now), .v (.slice ad t.L.length cp)], .v (.int .i64 key)] hr1 (by first | exact wanted_none rfl | exact wanted_zero (hr1.env.same rfl rfl rfl rfl) rfl (by simp) | exact wanted_zero (hr1.env.same rfl rfl rfl rfl) rfl (by simp [*])) rfl (callable 40 Try.func40) (find_ok w1 _ t key (hL.below hr1.keeps.toBelow) (by omega)) ?_
  rintro e2 w2 ⟨i, rfl, hpl, hb2⟩
  refine ⟨_, rfl, ?_⟩
  have h2 := hr1.ret hb2 11 (.tu [.v (.int .i64 i), .v (.bool (isAt t.L key i))]) rfl _ (hr1.all.below hb2) (by simp) rfl
  by_cases hat : isAt t.L key i = true
  rotate_left
  · have hat' : isAt t.L key i = false := by simpa using hat
    have hno : ¬ HasT t key := fun h => by
      have := place_has hpl (chk_srt h.1)
      rw [hat'] at this
      simp at this
      exact this h.2
    have hX : holdX t key = lse0 := if_neg hno
    refine seg cfg21_ok mixed PanicFree.body 1000 [true] [(16, true)] h2 (by first | trivial | exact HpRep.nil | assumption) (by kernel_rfl) fun s_ hs_ => ?_
    simp (maxSteps := 10000000) [SX.vc, SX.stop, SX.contS, SX.contB, SX.contW, SX.contR, SX.contD, SX.sxStep, SX.stepPure, SX.stepNew, SX.stepStore, SX.stepKeep, SX.guardIx, SX.evOp, SX.opd, SX.opds, SX.optOpd, SX.look, SX.putS, SX.gobs, SX.AllP, SX.leave, SX.lookC, SX.lookB, SX.lookT, SX.lookN, SX.findK, SX.evBuiltin, SX.ints, SX.foldI, SX.evBin, SX.evInt, SX.evStr, SX.evEq, SX.arith, SX.evLoad, SX.shapeUp, SX.evFieldAddr, SX.evField, SX.evIndexAddr, SX.evIndex, SX.evFill, SX.evBuild, SX.szs, SX.cellsV, SX.evNew, SX.evStore, SX.spliceL, SX.SV.cells, SX.evConv, SX.evSlice, SX.bnd, SX.evNil, SX.evUn, SX.evPick, SX.pickOpd, SX.popTo, SX.cnd, SX.env0, SX.TD.isAgg, SX.TD.isIface, SX.tails, SX.NotAgg, SX.evLookup, SX.evConvH, SX.evPtrEq, SX.isCells, SX.thaw, SX.frz, SX.fixB, SX.rootIx, SX.Froz, SX.frzStep, SX.fork, Go.Value.cells, Go.undef, cfg21, hat']
    refine ⟨by (unfold SX.Ob; first | trivial | omega | ((try simp only [SX.inK]); (try simp [SX.den, SX.IsU8, SX.AllP, *]); (try omega))), ?_⟩
    intro a3 w3 hr3 _
    exact post_retn (endC2 hr3 rfl rfl rfl tok33 rfl rfl ⟨by rw [hX, decide_eq_false hno]; simp [den, denL, lseC, lse0], hr3.keeps.toBelow⟩).1
  refine seg cfg21_ok mixed PanicFree.body 1000 [] [(16, false)] h2 (by first | trivial | exact HpRep.nil | assumption) (by kernel_rfl) fun s_ hs_ => ?_
  simp (maxSteps := 10000000) [SX.vc, SX.stop, SX.contS, SX.contB, SX.contW, SX.contR, SX.contD, SX.sxStep, SX.stepPure, SX.stepNew, SX.stepStore, SX.stepKeep, SX.guardIx, SX.evOp, SX.opd, SX.opds, SX.optOpd, SX.look, SX.putS, SX.gobs, SX.AllP, SX.leave, SX.lookC, SX.lookB, SX.lookT, SX.lookN, SX.findK, SX.evBuiltin, SX.ints, SX.foldI, SX.evBin, SX.evInt, SX.evStr, SX.evEq, SX.arith, SX.evLoad, SX.shapeUp, SX.evFieldAddr, SX.evField, SX.evIndexAddr, SX.evIndex, SX.evFill, SX.evBuild, SX.szs, SX.cellsV, SX.evNew, SX.evStore, SX.spliceL, SX.SV.cells, SX.evConv, SX.evSlice, SX.bnd, SX.evNil, SX.evUn, SX.evPick, SX.pickOpd, SX.popTo, SX.cnd, SX.env0, SX.TD.isAgg, SX.TD.isIface, SX.tails, SX.NotAgg, SX.evLookup, SX.evConvH, SX.evPtrEq, SX.isCells, SX.thaw, SX.frz, SX.fixB, SX.rootIx, SX.Froz, SX.frzStep, SX.fork, Go.Value.cells, Go.undef, cfg21, hat, tabC]
  refine ⟨by (unfold SX.Ob; first | trivial | omega | ((try simp only [SX.inK]); (try simp [SX.den, SX.IsU8, SX.AllP, *]); (try omega))), ?_⟩
  intro a3 w3 hr3 _
  refine post_call 25 [.ag [.v (.int .i64 t.last), .v (.int .i64 t.now), .v (.slice ad t.L.length cp)]] hr3 (by first | exact wanted_none rfl | exact wanted_zero (hr3.env.same rfl rfl rfl rfl) rfl (by simp) | exact wanted_zero (hr3.env.same rfl rfl rfl rfl) rfl (by simp [*])) rfl (callable 25 Try.func25) (check_ok w3 _ t (hL.below hr3.keeps.toBelow) (by omega)) ?_
  rintro e4 w4 ⟨rfl, hb4⟩
  refine ⟨_, rfl, ?_⟩
  have h4 := hr3.ret hb4 18 (.v (.int .i64 (chkT t))) rfl _ (hr3.all.below hb4) (by simp) rfl
  by_cases hC : ChkT t
  rotate_left
  · have hc : chkT t = 1 := if_neg hC
    have hno : ¬ HasT t key := fun h => hC h.1
    have hX : holdX t key = lse0 := if_neg hno
    refine seg cfg21_ok mixed PanicFree.body 1000 [true] [(16, false)] h4 (by first | trivial | exact HpRep.nil | assumption) (by kernel_rfl) fun s_ hs_ => ?_
    simp (maxSteps := 10000000) [SX.vc, SX.stop, SX.contS, SX.contB, SX.contW, SX.contR, SX.contD, SX.sxStep, SX.stepPure, SX.stepNew, SX.stepStore, SX.stepKeep, SX.guardIx, SX.evOp, SX.opd, SX.opds, SX.optOpd, SX.look, SX.putS, SX.gobs, SX.AllP, SX.leave, SX.lookC, SX.lookB, SX.lookT, SX.lookN, SX.findK, SX.evBuiltin, SX.ints, SX.foldI, SX.evBin, SX.evInt, SX.evStr, SX.evEq, SX.arith, SX.evLoad, SX.shapeUp, SX.evFieldAddr, SX.evField, SX.evIndexAddr, SX.evIndex, SX.evFill, SX.evBuild, SX.szs, SX.cellsV, SX.evNew, SX.evStore, SX.spliceL, SX.SV.cells, SX.evConv, SX.evSlice, SX.bnd, SX.evNil, SX.evUn, SX.evPick, SX.pickOpd, SX.popTo, SX.cnd, SX.env0, SX.TD.isAgg, SX.TD.isIface, SX.tails, SX.NotAgg, SX.evLookup, SX.evConvH, SX.evPtrEq, SX.isCells, SX.thaw, SX.frz, SX.fixB, SX.rootIx, SX.Froz, SX.frzStep, SX.fork, Go.Value.cells, Go.undef, cfg21, hc]
    refine ⟨by (unfold SX.Ob; first | trivial | omega | ((try simp only [SX.inK]); (try simp [SX.den, SX.IsU8, SX.AllP, *]); (try omega))), ?_⟩
    intro a5 w5 hr5 _
    exact post_retn (endC2 hr5 rfl rfl rfl tok33 rfl rfl ⟨by rw [hX, decide_eq_false hno]; simp [den, denL, lseC, lse0], hr5.keeps.toBelow⟩).1
  have hc : chkT t = 0 := if_pos hC
  have hH : HasK t.L key := by
    have := place_has hpl (chk_srt hC)
    rw [hat] at this
    simpa using this.symm
  have hyes : HasT t key := ⟨hC, hH⟩
  have hik : i < t.L.length ∧ (nth lse0 t.L i).k = key := by simpa [isAt] using hat
  have hX : holdX t key = nth lse0 t.L i := by rw [holdX, if_pos hyes, getK_at (chk_srt hC) hik.1 hik.2]
  obtain ⟨b, o0, cap, u, fz, hP, hv, hrep⟩ := hL.opn hik.1
  cases hv
  have hbw := SO.rep_lt hrep
  obtain ⟨x, hx⟩ : ∃ x, nth lse0 t.L i = x := ⟨_, rfl⟩
  have hA4 := h4.all
  have hrep4 := SO.rep_same hrep (h4.keeps.toBelow.block _ hbw)
  have hil := hik.1
  have h5 := h4.see [(sA, true, .cells [.v (.int .i64 t.last), .v (.int .i64 t.now), .sl 2 b o0 0 t.L.length cp 4] 24), (sA + 1, true, .cells [.v (.int .i64 0), .v (.int .i64 0), .v (.int .i64 0), .v (.int .i64 0)] 33), (b, false, .arr o0 t.L.length (fun j => lseC (nth lse0 t.L j)) 4 u fz)] ⟨⟨by simpa [SO.rep, denL, den] using hA4.1.1, hA4.1.2.1, by simp; omega⟩, ⟨hA4.2.1.1, hA4.2.1.2.1, by simp; omega⟩, HpAll.one hrep4⟩
  refine seg cfg21_ok mixed PanicFree.body 1000 [false] [(16, false)] h5 (by first | trivial | exact HpRep.nil | assumption) (by kernel_rfl) fun s_ hs_ => ?_
  simp (maxSteps := 10000000) [SX.vc, SX.stop, SX.contS, SX.contB, SX.contW, SX.contR, SX.contD, SX.sxStep, SX.stepPure, SX.stepNew, SX.stepStore, SX.stepKeep, SX.guardIx, SX.evOp, SX.opd, SX.opds, SX.optOpd, SX.look, SX.putS, SX.gobs, SX.AllP, SX.leave, SX.lookC, SX.lookB, SX.lookT, SX.lookN, SX.findK, SX.evBuiltin, SX.ints, SX.foldI, SX.evBin, SX.evInt, SX.evStr, SX.evEq, SX.arith, SX.evLoad, SX.shapeUp, SX.evFieldAddr, SX.evField, SX.evIndexAddr, SX.evIndex, SX.evFill, SX.evBuild, SX.szs, SX.cellsV, SX.evNew, SX.evStore, SX.spliceL, SX.SV.cells, SX.evConv, SX.evSlice, SX.bnd, SX.evNil, SX.evUn, SX.evPick, SX.pickOpd, SX.popTo, SX.cnd, SX.env0, SX.TD.isAgg, SX.TD.isIface, SX.tails, SX.NotAgg, SX.evLookup, SX.evConvH, SX.evPtrEq, SX.isCells, SX.thaw, SX.frz, SX.fixB, SX.rootIx, SX.Froz, SX.frzStep, SX.fork, Go.Value.cells, Go.undef, cfg21, hc, lseC, hx, hil]
  refine ⟨by (unfold SX.Ob; first | trivial | omega | ((try simp only [SX.inK]); (try simp [SX.den, SX.IsU8, SX.AllP, *]); (try omega))), ?_⟩
  intro a6 w6 hr6 _
  exact post_retn (endC2 hr6 rfl rfl rfl tok33 rfl rfl ⟨by rw [hX, decide_eq_true hyes, hx]; simp [den, denL, lseC], hr6.keeps.toBelow⟩).1

/-- Something that is done. -/
structure Opr where
  d : Int
  a : Int
  b : Int
  c : Int
  x : Int
def opr0 : Opr := ⟨0, 0, 0, 0, 0⟩
def oprC (o : Opr) : List SV := [.v (.int .i64 o.d), .v (.int .i64 o.a), .v (.int .i64 o.b), .v (.int .i64 o.c), .v (.int .i64 o.x)]
abbrev RdO := RdS oprC 5 opr0
def bodyE (t : Tab) (o : Opr) : Int := if o.d = 0 then tickE t o.a else if o.d = 1 then grantE t o.a o.b o.c else if o.d = 2 then renE t o.a o.b o.x o.c else if o.d = 3 then revE t o.a else 0
def bodyT (t : Tab) (o : Opr) : Tab := if o.d = 0 then tickT t o.a else if o.d = 1 then grantT t o.a o.b o.c else if o.d = 2 then renT t o.a o.b o.x o.c else if o.d = 3 then revT t o.a else t
def bodyX (t : Tab) (o : Opr) : List Lse := if o.d = 0 then tickO t o.a else if o.d = 1 then [grantX t o.a o.b o.c] else if o.d = 2 then [] else if o.d = 3 then [] else if HasT t o.a then [getK t.L o.a] else []
def BodyR (P : Nat → Prop) (w : World) (t : Tab) (o : Opr) (e : Ending) (w' : World) : Prop :=
  ∃ v1 v2, e = .returned (den (.tu [.ag (tabC (bodyT t o) v1), .v v2, .v (.int .i64 (bodyE t o))])) ∧ RdL (fun x => P x ∨ w.heap.size ≤ x) w' v1 (bodyT t o).L ∧ RdL (fun x => w.heap.size ≤ x) w' v2 (bodyX t o) ∧ Below w.heap.size w w'

set_option maxRecDepth 100000 in
set_option maxHeartbeats 16000000 in
/-- body. -/
theorem body_ok {P : Nat → Prop} (w : World) (v : Value) (t : Tab) (o : Opr) (hL : RdL P w v t.L) (hn : t.L.length ≤ 100000) (hl1 : t.last ≤ 2305843009213693952) (hl2 : t.now ≤ 2305843009213693952) : Calls Try.prog 19 (denL [.ag (tabC t v), .ag (oprC o)]).toArray w (BodyR P w t o) := by
  refine enter (F := frame0 w) Try.func19 rfl [.ag (tabC t v), .ag (oprC o)] [] (by simp [Try.f19]) trivial (keeps0 w) fun a hr => ?_
  obtain ⟨ad, cp, rfl⟩ := hL.slice
  by_cases d0 : o.d = 0
  · have hE : bodyE t o = tickE t o.a := if_pos d0
    have hT : bodyT t o = tickT t o.a := if_pos d0
    have hX : bodyX t o = tickO t o.a := if_pos d0
    refine seg cfg19_ok mixed PanicFree.body 1000 [true] [] hr (by first | trivial | exact HpRep.nil | assumption) (by kernel_rfl) fun s_ hs_ => ?_
    simp (maxSteps := 10000000) [SX.vc, SX.stop, SX.contS, SX.contB, SX.contW, SX.contR, SX.contD, SX.sxStep, SX.stepPure, SX.stepNew, SX.stepStore, SX.stepKeep, SX.guardIx, SX.evOp, SX.opd, SX.opds, SX.optOpd, SX.look, SX.putS, SX.gobs, SX.AllP, SX.leave, SX.lookC, SX.lookB, SX.lookT, SX.lookN, SX.findK, SX.evBuiltin, SX.ints, SX.foldI, SX.evBin, SX.evInt, SX.evStr, SX.evEq, SX.arith, SX.evLoad, SX.shapeUp, SX.evFieldAddr, SX.evField, SX.evIndexAddr, SX.evIndex, SX.evFill, SX.evBuild, SX.szs, SX.cellsV, SX.evNew, SX.evStore, SX.spliceL, SX.SV.cells, SX.evConv, SX.evSlice, SX.bnd, SX.evNil, SX.evUn, SX.evPick, SX.pickOpd, SX.popTo, SX.cnd, SX.env0, SX.TD.isAgg, SX.TD.isIface, SX.tails, SX.NotAgg, SX.evLookup, SX.evConvH, SX.evPtrEq, SX.isCells, SX.thaw, SX.frz, SX.fixB, SX.rootIx, SX.Froz, SX.frzStep, SX.fork, Go.Value.cells, Go.undef, cfg19, Try.f19, tabC, oprC, d0]
    refine ⟨by (unfold SX.Ob; first | trivial | omega | ((try simp only [SX.inK]); (try simp [SX.den, SX.IsU8, SX.AllP, *]); (try omega))), ?_⟩
    intro a1 w1 hr1 _
    have z1 : w.heap.size ≤ w1.heap.size := hr1.keeps.size
    refine post_call 13 [.ag [.v (.int .i64 t.last), .v (.int .i64 t.now), .v (.slice ad t.L.length cp)], .v (.int .i64 o.a)] hr1 (by first | exact wanted_none rfl | exact wanted_zero (hr1.env.same rfl rfl rfl rfl) rfl (by simp) | exact wanted_zero (hr1.env.same rfl rfl rfl rfl) rfl (by simp [*])) rfl (callable 13 Try.func13) (Tick_ok w1 _ t o.a (hL.below hr1.keeps.toBelow) (by omega)) ?_
    rintro e2 w2 ⟨v2, v2', rfl, hL2, hO2, hb2⟩
    refine ⟨_, rfl, ?_⟩
    have h2 := hr1.ret hb2 23 (.tu [.ag (tabC (tickT t o.a) v2), .v v2', .v (.int .i64 (tickE t o.a))]) rfl _ (hr1.all.below hb2) (by simp) rfl
    obtain ⟨ad2, cp2, rfl⟩ := hL2.slice
    refine seg cfg19_ok mixed PanicFree.body 1000 [] [] h2.rebase (by first | trivial | exact HpRep.nil | assumption) (by kernel_rfl) fun s_ hs_ => ?_
    simp (maxSteps := 10000000) [SX.vc, SX.stop, SX.contS, SX.contB, SX.contW, SX.contR, SX.contD, SX.sxStep, SX.stepPure, SX.stepNew, SX.stepStore, SX.stepKeep, SX.guardIx, SX.evOp, SX.opd, SX.opds, SX.optOpd, SX.look, SX.putS, SX.gobs, SX.AllP, SX.leave, SX.lookC, SX.lookB, SX.lookT, SX.lookN, SX.findK, SX.evBuiltin, SX.ints, SX.foldI, SX.evBin, SX.evInt, SX.evStr, SX.evEq, SX.arith, SX.evLoad, SX.shapeUp, SX.evFieldAddr, SX.evField, SX.evIndexAddr, SX.evIndex, SX.evFill, SX.evBuild, SX.szs, SX.cellsV, SX.evNew, SX.evStore, SX.spliceL, SX.SV.cells, SX.evConv, SX.evSlice, SX.bnd, SX.evNil, SX.evUn, SX.evPick, SX.pickOpd, SX.popTo, SX.cnd, SX.env0, SX.TD.isAgg, SX.TD.isIface, SX.tails, SX.NotAgg, SX.evLookup, SX.evConvH, SX.evPtrEq, SX.isCells, SX.thaw, SX.frz, SX.fixB, SX.rootIx, SX.Froz, SX.frzStep, SX.fork, Go.Value.cells, Go.undef, cfg19, tabC]
    refine ⟨by (unfold SX.Ob; first | trivial | omega | ((try simp only [SX.inK]); (try simp [SX.den, SX.IsU8, SX.AllP, *]); (try omega))), ?_⟩
    intro a3 w3 hr3' _
    have hr3 := h2.unbase hr3'
    have hL3 := hL2.keep hr3'.keeps (fun x hx h => absurd (mutB_lt hr1.all x hx) (by omega))
    have hO3 := hO2.keep hr3'.keeps (fun x hx h => absurd (mutB_lt hr1.all x hx) (by omega))
    exact post_retn (endCTT hr3 rfl rfl rfl tok24 rfl rfl rfl ⟨.slice ad2 (tickT t o.a).L.length cp2, v2', by rw [hE, hT]; simp [den, denL, tabC], by rw [hT]; exact hL3.mono fun x _ h => .inr (by omega), by rw [hX]; exact hO3.mono fun x _ h => by omega, hr3.keeps.toBelow⟩).1
  by_cases d1 : o.d = 1
  · have hE : bodyE t o = grantE t o.a o.b o.c := by rw [bodyE, if_neg d0, if_pos d1]
    have hT : bodyT t o = grantT t o.a o.b o.c := by rw [bodyT, if_neg d0, if_pos d1]
    have hX : bodyX t o = [grantX t o.a o.b o.c] := by rw [bodyX, if_neg d0, if_pos d1]
    refine seg cfg19_ok mixed PanicFree.body 1000 [false, true] [] hr (by first | trivial | exact HpRep.nil | assumption) (by kernel_rfl) fun s_ hs_ => ?_
    simp (maxSteps := 10000000) [SX.vc, SX.stop, SX.contS, SX.contB, SX.contW, SX.contR, SX.contD, SX.sxStep, SX.stepPure, SX.stepNew, SX.stepStore, SX.stepKeep, SX.guardIx, SX.evOp, SX.opd, SX.opds, SX.optOpd, SX.look, SX.putS, SX.gobs, SX.AllP, SX.leave, SX.lookC, SX.lookB, SX.lookT, SX.lookN, SX.findK, SX.evBuiltin, SX.ints, SX.foldI, SX.evBin, SX.evInt, SX.evStr, SX.evEq, SX.arith, SX.evLoad, SX.shapeUp, SX.evFieldAddr, SX.evField, SX.evIndexAddr, SX.evIndex, SX.evFill, SX.evBuild, SX.szs, SX.cellsV, SX.evNew, SX.evStore, SX.spliceL, SX.SV.cells, SX.evConv, SX.evSlice, SX.bnd, SX.evNil, SX.evUn, SX.evPick, SX.pickOpd, SX.popTo, SX.cnd, SX.env0, SX.TD.isAgg, SX.TD.isIface, SX.tails, SX.NotAgg, SX.evLookup, SX.evConvH, SX.evPtrEq, SX.isCells, SX.thaw, SX.frz, SX.fixB, SX.rootIx, SX.Froz, SX.frzStep, SX.fork, Go.Value.cells, Go.undef, cfg19, Try.f19, tabC, oprC, d0, d1]
    refine ⟨by (unfold SX.Ob; first | trivial | omega | ((try simp only [SX.inK]); (try simp [SX.den, SX.IsU8, SX.AllP, *]); (try omega))), ?_⟩
    intro a1 w1 hr1 _
    have z1 : w.heap.size ≤ w1.heap.size := hr1.keeps.size
    refine post_call 15 [.ag [.v (.int .i64 t.last), .v (.int .i64 t.now), .v (.slice ad t.L.length cp)], .v (.int .i64 o.a), .v (.int .i64 o.b), .v (.int .i64 o.c)] hr1 (by first | exact wanted_none rfl | exact wanted_zero (hr1.env.same rfl rfl rfl rfl) rfl (by simp) | exact wanted_zero (hr1.env.same rfl rfl rfl rfl) rfl (by simp [*])) rfl (callable 15 Try.func15) (Grant_ok w1 _ t o.a o.b o.c (hL.below hr1.keeps.toBelow) (by omega) (by omega) (by omega)) ?_
    rintro e2 w2 ⟨v2, rfl, hL2, hb2⟩
    refine ⟨_, rfl, ?_⟩
    have h2 := hr1.ret hb2 37 (.tu [.ag (tabC (grantT t o.a o.b o.c) v2), .ag (lseC (grantX t o.a o.b o.c)), .v (.int .i64 (grantE t o.a o.b o.c))]) rfl _ (hr1.all.below hb2) (by simp) rfl
    obtain ⟨ad2, cp2, rfl⟩ := hL2.slice
    refine seg cfg19_ok mixed PanicFree.body 1000 [] [] h2.rebase (by first | trivial | exact HpRep.nil | assumption) (by kernel_rfl) fun s_ hs_ => ?_
    simp (maxSteps := 10000000) [SX.vc, SX.stop, SX.contS, SX.contB, SX.contW, SX.contR, SX.contD, SX.sxStep, SX.stepPure, SX.stepNew, SX.stepStore, SX.stepKeep, SX.guardIx, SX.evOp, SX.opd, SX.opds, SX.optOpd, SX.look, SX.putS, SX.gobs, SX.AllP, SX.leave, SX.lookC, SX.lookB, SX.lookT, SX.lookN, SX.findK, SX.evBuiltin, SX.ints, SX.foldI, SX.evBin, SX.evInt, SX.evStr, SX.evEq, SX.arith, SX.evLoad, SX.shapeUp, SX.evFieldAddr, SX.evField, SX.evIndexAddr, SX.evIndex, SX.evFill, SX.evBuild, SX.szs, SX.cellsV, SX.evNew, SX.evStore, SX.spliceL, SX.SV.cells, SX.evConv, SX.evSlice, SX.bnd, SX.evNil, SX.evUn, SX.evPick, SX.pickOpd, SX.popTo, SX.cnd, SX.env0, SX.TD.isAgg, SX.TD.isIface, SX.tails, SX.NotAgg, SX.evLookup, SX.evConvH, SX.evPtrEq, SX.isCells, SX.thaw, SX.frz, SX.fixB, SX.rootIx, SX.Froz, SX.frzStep, SX.fork, Go.Value.cells, Go.undef, cfg19, tabC, lseC]
    refine ⟨by (unfold SX.Ob; first | trivial | omega | ((try simp only [SX.inK]); (try simp [SX.den, SX.IsU8, SX.AllP, *]); (try omega))), ?_⟩
    intro a3 w3 hr3' ht3'
    refine post_both ?_ ?_
    · refine seg cfg19_ok mixed PanicFree.body 1000 [] [] hr3' (by first | trivial | exact HpRep.nil | assumption) (by kernel_rfl) fun s_ hs_ => ?_
      simp (maxSteps := 10000000) [SX.vc, SX.stop, SX.contS, SX.contB, SX.contW, SX.contR, SX.contD, SX.sxStep, SX.stepPure, SX.stepNew, SX.stepStore, SX.stepKeep, SX.guardIx, SX.evOp, SX.opd, SX.opds, SX.optOpd, SX.look, SX.putS, SX.gobs, SX.AllP, SX.leave, SX.lookC, SX.lookB, SX.lookT, SX.lookN, SX.findK, SX.evBuiltin, SX.ints, SX.foldI, SX.evBin, SX.evInt, SX.evStr, SX.evEq, SX.arith, SX.evLoad, SX.shapeUp, SX.evFieldAddr, SX.evField, SX.evIndexAddr, SX.evIndex, SX.evFill, SX.evBuild, SX.szs, SX.cellsV, SX.evNew, SX.evStore, SX.spliceL, SX.SV.cells, SX.evConv, SX.evSlice, SX.bnd, SX.evNil, SX.evUn, SX.evPick, SX.pickOpd, SX.popTo, SX.cnd, SX.env0, SX.TD.isAgg, SX.TD.isIface, SX.tails, SX.NotAgg, SX.evLookup, SX.evConvH, SX.evPtrEq, SX.isCells, SX.thaw, SX.frz, SX.fixB, SX.rootIx, SX.Froz, SX.frzStep, SX.fork, Go.Value.cells, Go.undef, cfg19]
      refine ⟨by (unfold SX.Ob; first | trivial | omega | ((try simp only [SX.inK]); (try simp [SX.den, SX.IsU8, SX.AllP, *]); (try omega))), ?_⟩
      intro a4 w4 hr4' _
      have hr4 := h2.unbase hr4'
      have hL4 := hL2.keep hr4'.keeps (fun x hx h => absurd (mutB_lt hr1.all x hx) (by omega))
      have hS := (RdS.lit (enc := lseC) (sz := 4) (d := lse0) (x := grantX t o.a o.b o.c) hr4.all.2.2.2.2.2.1.1 (by simp [lseC])).mono (P' := fun x => w.heap.size ≤ x) fun x _ h => by
        rcases hr4.all.2.2.2.2.2.1.2.1 rfl with h' | h'
        · rw [h]; exact h'
        · cases h'
      exact post_retn (endCTT hr4 rfl rfl rfl tok24 rfl rfl rfl ⟨.slice ad2 (grantT t o.a o.b o.c).L.length cp2, _, by rw [hE, hT]; simp [den, denL, tabC]; rfl, by rw [hT]; exact hL4.mono fun x _ h => .inr (by omega), by rw [hX]; exact hS, hr4.keeps.toBelow⟩).1
    · refine seg cfg19_ok mixed PanicFree.body 1000 [] [] hr3' (by first | trivial | exact HpRep.nil | assumption) (by kernel_rfl) fun s_ hs_ => ?_
      simp (maxSteps := 10000000) [SX.vc, SX.stop, SX.contS, SX.contB, SX.contW, SX.contR, SX.contD, SX.sxStep, SX.stepPure, SX.stepNew, SX.stepStore, SX.stepKeep, SX.guardIx, SX.evOp, SX.opd, SX.opds, SX.optOpd, SX.look, SX.putS, SX.gobs, SX.AllP, SX.leave, SX.lookC, SX.lookB, SX.lookT, SX.lookN, SX.findK, SX.evBuiltin, SX.ints, SX.foldI, SX.evBin, SX.evInt, SX.evStr, SX.evEq, SX.arith, SX.evLoad, SX.shapeUp, SX.evFieldAddr, SX.evField, SX.evIndexAddr, SX.evIndex, SX.evFill, SX.evBuild, SX.szs, SX.cellsV, SX.evNew, SX.evStore, SX.spliceL, SX.SV.cells, SX.evConv, SX.evSlice, SX.bnd, SX.evNil, SX.evUn, SX.evPick, SX.pickOpd, SX.popTo, SX.cnd, SX.env0, SX.TD.isAgg, SX.TD.isIface, SX.tails, SX.NotAgg, SX.evLookup, SX.evConvH, SX.evPtrEq, SX.isCells, SX.thaw, SX.frz, SX.fixB, SX.rootIx, SX.Froz, SX.frzStep, SX.fork, Go.Value.cells, Go.undef, cfg19]
      refine ⟨by (unfold SX.Ob; first | trivial | omega | ((try simp only [SX.inK]); (try simp [SX.den, SX.IsU8, SX.AllP, *]); (try omega))), ?_⟩
      intro a4 w4 hr4' _
      have hr4 := h2.unbase hr4'
      have hL4 := hL2.keep hr4'.keeps (fun x hx h => absurd (mutB_lt hr1.all x hx) (by omega))
      have hS := (RdS.lit (enc := lseC) (sz := 4) (d := lse0) (x := grantX t o.a o.b o.c) hr4.all.2.2.2.2.2.1.1 (by simp [lseC])).mono (P' := fun x => w.heap.size ≤ x) fun x _ h => by
        rcases hr4.all.2.2.2.2.2.1.2.1 rfl with h' | h'
        · rw [h]; exact h'
        · cases h'
      exact post_retn (endCTT hr4 rfl rfl rfl tok24 rfl rfl rfl ⟨.slice ad2 (grantT t o.a o.b o.c).L.length cp2, _, by rw [hE, hT]; simp [den, denL, tabC]; rfl, by rw [hT]; exact hL4.mono fun x _ h => .inr (by omega), by rw [hX]; exact hS, hr4.keeps.toBelow⟩).1
  by_cases d2 : o.d = 2
  · have hE : bodyE t o = renE t o.a o.b o.x o.c := by rw [bodyE, if_neg d0, if_neg d1, if_pos d2]
    have hT : bodyT t o = renT t o.a o.b o.x o.c := by rw [bodyT, if_neg d0, if_neg d1, if_pos d2]
    have hX : bodyX t o = [] := by rw [bodyX, if_neg d0, if_neg d1, if_pos d2]
    refine seg cfg19_ok mixed PanicFree.body 1000 [false, false, true] [] hr (by first | trivial | exact HpRep.nil | assumption) (by kernel_rfl) fun s_ hs_ => ?_
    simp (maxSteps := 10000000) [SX.vc, SX.stop, SX.contS, SX.contB, SX.contW, SX.contR, SX.contD, SX.sxStep, SX.stepPure, SX.stepNew, SX.stepStore, SX.stepKeep, SX.guardIx, SX.evOp, SX.opd, SX.opds, SX.optOpd, SX.look, SX.putS, SX.gobs, SX.AllP, SX.leave, SX.lookC, SX.lookB, SX.lookT, SX.lookN, SX.findK, SX.evBuiltin, SX.ints, SX.foldI, SX.evBin, SX.evInt, SX.evStr, SX.evEq, SX.arith, SX.evLoad, SX.shapeUp, SX.evFieldAddr, SX.evField, SX.evIndexAddr, SX.evIndex, SX.evFill, SX.evBuild, SX.szs, SX.cellsV, SX.evNew, SX.evStore, SX.spliceL, SX.SV.cells, SX.evConv, SX.evSlice, SX.bnd, SX.evNil, SX.evUn, SX.evPick, SX.pickOpd, SX.popTo, SX.cnd, SX.env0, SX.TD.isAgg, SX.TD.isIface, SX.tails, SX.NotAgg, SX.evLookup, SX.evConvH, SX.evPtrEq, SX.isCells, SX.thaw, SX.frz, SX.fixB, SX.rootIx, SX.Froz, SX.frzStep, SX.fork, Go.Value.cells, Go.undef, cfg19, Try.f19, tabC, oprC, d0, d1, d2]
    refine ⟨by (unfold SX.Ob; first | trivial | omega | ((try simp only [SX.inK]); (try simp [SX.den, SX.IsU8, SX.AllP, *]); (try omega))), ?_⟩
    intro a1 w1 hr1 _
    have z1 : w.heap.size ≤ w1.heap.size := hr1.keeps.size
    refine post_call 17 [.ag [.v (.int .i64 t.last), .v (.int .i64 t.now), .v (.slice ad t.L.length cp)], .v (.int .i64 o.a), .v (.int .i64 o.b), .v (.int .i64 o.x), .v (.int .i64 o.c)] hr1 (by first | exact wanted_none rfl | exact wanted_zero (hr1.env.same rfl rfl rfl rfl) rfl (by simp) | exact wanted_zero (hr1.env.same rfl rfl rfl rfl) rfl (by simp [*])) rfl (callable 17 Try.func17) (Renew_ok w1 _ t o.a o.b o.x o.c (hL.below hr1.keeps.toBelow) (by omega) (by omega)) ?_
    rintro e2 w2 ⟨v2, rfl, hL2, hb2⟩
    refine ⟨_, rfl, ?_⟩
    have h2 := hr1.ret hb2 57 (.tu [.ag (tabC (renT t o.a o.b o.x o.c) v2), .v (.int .i64 (renE t o.a o.b o.x o.c))]) rfl _ (hr1.all.below hb2) (by simp) rfl
    obtain ⟨ad2, cp2, rfl⟩ := hL2.slice
    refine seg cfg19_ok mixed PanicFree.body 1000 [] [] h2.rebase (by first | trivial | exact HpRep.nil | assumption) (by kernel_rfl) fun s_ hs_ => ?_
    simp (maxSteps := 10000000) [SX.vc, SX.stop, SX.contS, SX.contB, SX.contW, SX.contR, SX.contD, SX.sxStep, SX.stepPure, SX.stepNew, SX.stepStore, SX.stepKeep, SX.guardIx, SX.evOp, SX.opd, SX.opds, SX.optOpd, SX.look, SX.putS, SX.gobs, SX.AllP, SX.leave, SX.lookC, SX.lookB, SX.lookT, SX.lookN, SX.findK, SX.evBuiltin, SX.ints, SX.foldI, SX.evBin, SX.evInt, SX.evStr, SX.evEq, SX.arith, SX.evLoad, SX.shapeUp, SX.evFieldAddr, SX.evField, SX.evIndexAddr, SX.evIndex, SX.evFill, SX.evBuild, SX.szs, SX.cellsV, SX.evNew, SX.evStore, SX.spliceL, SX.SV.cells, SX.evConv, SX.evSlice, SX.bnd, SX.evNil, SX.evUn, SX.evPick, SX.pickOpd, SX.popTo, SX.cnd, SX.env0, SX.TD.isAgg, SX.TD.isIface, SX.tails, SX.NotAgg, SX.evLookup, SX.evConvH, SX.evPtrEq, SX.isCells, SX.thaw, SX.frz, SX.fixB, SX.rootIx, SX.Froz, SX.frzStep, SX.fork, Go.Value.cells, Go.undef, cfg19, tabC]
    refine ⟨by (unfold SX.Ob; first | trivial | omega | ((try simp only [SX.inK]); (try simp [SX.den, SX.IsU8, SX.AllP, *]); (try omega))), ?_⟩
    intro a3 w3 hr3' _
    have hr3 := h2.unbase hr3'
    have hL3 := hL2.keep hr3'.keeps (fun x hx h => absurd (mutB_lt hr1.all x hx) (by omega))
    exact post_retn (endCTT hr3 rfl rfl rfl tok24 rfl rfl rfl ⟨.slice ad2 (renT t o.a o.b o.x o.c).L.length cp2, .slice none 0 0, by rw [hE, hT]; simp [den, denL, tabC], by rw [hT]; exact hL3.mono fun x _ h => .inr (by omega), by rw [hX]; exact OwS.nil.rd, hr3.keeps.toBelow⟩).1
  by_cases d3 : o.d = 3
  · have hE : bodyE t o = revE t o.a := by rw [bodyE, if_neg d0, if_neg d1, if_neg d2, if_pos d3]
    have hT : bodyT t o = revT t o.a := by rw [bodyT, if_neg d0, if_neg d1, if_neg d2, if_pos d3]
    have hX : bodyX t o = [] := by rw [bodyX, if_neg d0, if_neg d1, if_neg d2, if_pos d3]
    refine seg cfg19_ok mixed PanicFree.body 1000 [false, false, false, true] [] hr (by first | trivial | exact HpRep.nil | assumption) (by kernel_rfl) fun s_ hs_ => ?_
    simp (maxSteps := 10000000) [SX.vc, SX.stop, SX.contS, SX.contB, SX.contW, SX.contR, SX.contD, SX.sxStep, SX.stepPure, SX.stepNew, SX.stepStore, SX.stepKeep, SX.guardIx, SX.evOp, SX.opd, SX.opds, SX.optOpd, SX.look, SX.putS, SX.gobs, SX.AllP, SX.leave, SX.lookC, SX.lookB, SX.lookT, SX.lookN, SX.findK, SX.evBuiltin, SX.ints, SX.foldI, SX.evBin, SX.evInt, SX.evStr, SX.evEq, SX.arith, SX.evLoad, SX.shapeUp, SX.evFieldAddr, SX.evField, SX.evIndexAddr, SX.evIndex, SX.evFill, SX.evBuild, SX.szs, SX.cellsV, SX.evNew, SX.evStore, SX.spliceL, SX.SV.cells, SX.evConv, SX.evSlice, SX.bnd, SX.evNil, SX.evUn, SX.evPick, SX.pickOpd, SX.popTo, SX.cnd, SX.env0, SX.TD.isAgg, SX.TD.isIface, SX.tails, SX.NotAgg, SX.evLookup, SX.evConvH, SX.evPtrEq, SX.isCells, SX.thaw, SX.frz, SX.fixB, SX.rootIx, SX.Froz, SX.frzStep, SX.fork, Go.Value.cells, Go.undef, cfg19, Try.f19, tabC, oprC, d0, d1, d2, d3]
    refine ⟨by (unfold SX.Ob; first | trivial | omega | ((try simp only [SX.inK]); (try simp [SX.den, SX.IsU8, SX.AllP, *]); (try omega))), ?_⟩
    intro a1 w1 hr1 _
    have z1 : w.heap.size ≤ w1.heap.size := hr1.keeps.size
    refine post_call 16 [.ag [.v (.int .i64 t.last), .v (.int .i64 t.now), .v (.slice ad t.L.length cp)], .v (.int .i64 o.a)] hr1 (by first | exact wanted_none rfl | exact wanted_zero (hr1.env.same rfl rfl rfl rfl) rfl (by simp) | exact wanted_zero (hr1.env.same rfl rfl rfl rfl) rfl (by simp [*])) rfl (callable 16 Try.func16) (Revoke_ok w1 _ t o.a (hL.below hr1.keeps.toBelow) (by omega)) ?_
    rintro e2 w2 ⟨v2, rfl, hL2, hb2⟩
    refine ⟨_, rfl, ?_⟩
    have h2 := hr1.ret hb2 68 (.tu [.ag (tabC (revT t o.a) v2), .v (.int .i64 (revE t o.a))]) rfl _ (hr1.all.below hb2) (by simp) rfl
    obtain ⟨ad2, cp2, rfl⟩ := hL2.slice
    refine seg cfg19_ok mixed PanicFree.body 1000 [] [] h2.rebase (by first | trivial | exact HpRep.nil | assumption) (by kernel_rfl) fun s_ hs_ => ?_
    simp (maxSteps := 10000000) [SX.vc, SX.stop, SX.contS, SX.contB, SX.contW, SX.contR, SX.contD, SX.sxStep, SX.stepPure, SX.stepNew, SX.stepStore, SX.stepKeep, SX.guardIx, SX.evOp, SX.opd, SX.opds, SX.optOpd, SX.look, SX.putS, SX.gobs, SX.AllP, SX.leave, SX.lookC, SX.lookB, SX.lookT, SX.lookN, SX.findK, SX.evBuiltin, SX.ints, SX.foldI, SX.evBin, SX.evInt, SX.evStr, SX.evEq, SX.arith, SX.evLoad, SX.shapeUp, SX.evFieldAddr, SX.evField, SX.evIndexAddr, SX.evIndex, SX.evFill, SX.evBuild, SX.szs, SX.cellsV, SX.evNew, SX.evStore, SX.spliceL, SX.SV.cells, SX.evConv, SX.evSlice, SX.bnd, SX.evNil, SX.evUn, SX.evPick, SX.pickOpd, SX.popTo, SX.cnd, SX.env0, SX.TD.isAgg, SX.TD.isIface, SX.tails, SX.NotAgg, SX.evLookup, SX.evConvH, SX.evPtrEq, SX.isCells, SX.thaw, SX.frz, SX.fixB, SX.rootIx, SX.Froz, SX.frzStep, SX.fork, Go.Value.cells, Go.undef, cfg19, tabC]
    refine ⟨by (unfold SX.Ob; first | trivial | omega | ((try simp only [SX.inK]); (try simp [SX.den, SX.IsU8, SX.AllP, *]); (try omega))), ?_⟩
    intro a3 w3 hr3' _
    have hr3 := h2.unbase hr3'
    have hL3 := hL2.keep hr3'.keeps (fun x hx h => absurd (mutB_lt hr1.all x hx) (by omega))
    exact post_retn (endCTT hr3 rfl rfl rfl tok24 rfl rfl rfl ⟨.slice ad2 (revT t o.a).L.length cp2, .slice none 0 0, by rw [hE, hT]; simp [den, denL, tabC], by rw [hT]; exact hL3.mono fun x _ h => .inr (by omega), by rw [hX]; exact OwS.nil.rd, hr3.keeps.toBelow⟩).1
  have hE : bodyE t o = 0 := by rw [bodyE, if_neg d0, if_neg d1, if_neg d2, if_neg d3]
  have hT : bodyT t o = t := by rw [bodyT, if_neg d0, if_neg d1, if_neg d2, if_neg d3]
  have hX : bodyX t o = if HasT t o.a then [getK t.L o.a] else [] := by rw [bodyX, if_neg d0, if_neg d1, if_neg d2, if_neg d3]
  refine seg cfg19_ok mixed PanicFree.body 1000 [false, false, false, false] [] hr (by first | trivial | exact HpRep.nil | assumption) (by kernel_rfl) fun s_ hs_ => ?_
  simp (maxSteps := 10000000) [SX.vc, SX.stop, SX.contS, SX.contB, SX.contW, SX.contR, SX.contD, SX.sxStep, SX.stepPure, SX.stepNew, SX.stepStore, SX.stepKeep, SX.guardIx, SX.evOp, SX.opd, SX.opds, SX.optOpd, SX.look, SX.putS, SX.gobs, SX.AllP, SX.leave, SX.lookC, SX.lookB, SX.lookT, SX.lookN, SX.findK, SX.evBuiltin, SX.ints, SX.foldI, SX.evBin, SX.evInt, SX.evStr, SX.evEq, SX.arith, SX.evLoad, SX.shapeUp, SX.evFieldAddr, SX.evField, SX.evIndexAddr, SX.evIndex, SX.evFill, SX.evBuild, SX.szs, SX.cellsV, SX.evNew, SX.evStore, SX.spliceL, SX.SV.cells, SX.evConv, SX.evSlice, SX.bnd, SX.evNil, SX.evUn, SX.evPick, SX.pickOpd, SX.popTo, SX.cnd, SX.env0, SX.TD.isAgg, SX.TD.isIface, SX.tails, SX.NotAgg, SX.evLookup, SX.evConvH, SX.evPtrEq, SX.isCells, SX.thaw, SX.frz, SX.fixB, SX.rootIx, SX.Froz, SX.frzStep, SX.fork, Go.Value.cells, Go.undef, cfg19, Try.f19, tabC, oprC, d0, d1, d2, d3]
  refine ⟨by (unfold SX.Ob; first | trivial | omega | ((try simp only [SX.inK]); (try simp [SX.den, SX.IsU8, SX.AllP, *]); (try omega))), ?_⟩
  intro a1 w1 hr1 _
  refine post_call 21 [.ag [.v (.int .i64 t.last), .v (.int .i64 t.now), .v (.slice ad t.L.length cp)], .v (.int .i64 o.a)] hr1 (by first | exact wanted_none rfl | exact wanted_zero (hr1.env.same rfl rfl rfl rfl) rfl (by simp) | exact wanted_zero (hr1.env.same rfl rfl rfl rfl) rfl (by simp [*])) rfl (callable 21 Try.func21) (Holder_ok w1 _ t o.a (hL.below hr1.keeps.toBelow) (by omega)) ?_
  rintro e2 w2 ⟨rfl, hb2⟩
  refine ⟨_, rfl, ?_⟩
  have h2 := hr1.ret hb2 77 (.tu [.ag (lseC (holdX t o.a)), .v (.bool (decide (HasT t o.a)))]) rfl _ (hr1.all.below hb2) (by simp) rfl
  by_cases hH : HasT t o.a
  rotate_left
  · rw [if_neg hH] at hX
    refine seg cfg19_ok mixed PanicFree.body 1000 [true] [] h2 (by first | trivial | exact HpRep.nil | assumption) (by kernel_rfl) fun s_ hs_ => ?_
    simp (maxSteps := 10000000) [SX.vc, SX.stop, SX.contS, SX.contB, SX.contW, SX.contR, SX.contD, SX.sxStep, SX.stepPure, SX.stepNew, SX.stepStore, SX.stepKeep, SX.guardIx, SX.evOp, SX.opd, SX.opds, SX.optOpd, SX.look, SX.putS, SX.gobs, SX.AllP, SX.leave, SX.lookC, SX.lookB, SX.lookT, SX.lookN, SX.findK, SX.evBuiltin, SX.ints, SX.foldI, SX.evBin, SX.evInt, SX.evStr, SX.evEq, SX.arith, SX.evLoad, SX.shapeUp, SX.evFieldAddr, SX.evField, SX.evIndexAddr, SX.evIndex, SX.evFill, SX.evBuild, SX.szs, SX.cellsV, SX.evNew, SX.evStore, SX.spliceL, SX.SV.cells, SX.evConv, SX.evSlice, SX.bnd, SX.evNil, SX.evUn, SX.evPick, SX.pickOpd, SX.popTo, SX.cnd, SX.env0, SX.TD.isAgg, SX.TD.isIface, SX.tails, SX.NotAgg, SX.evLookup, SX.evConvH, SX.evPtrEq, SX.isCells, SX.thaw, SX.frz, SX.fixB, SX.rootIx, SX.Froz, SX.frzStep, SX.fork, Go.Value.cells, Go.undef, cfg19, hH, lseC]
    refine ⟨by (unfold SX.Ob; first | trivial | omega | ((try simp only [SX.inK]); (try simp [SX.den, SX.IsU8, SX.AllP, *]); (try omega))), ?_⟩
    intro a3 w3 hr3 _
    exact post_retn (endCTT hr3 rfl rfl rfl tok24 rfl rfl rfl ⟨.slice ad t.L.length cp, .slice none 0 0, by rw [hE, hT]; simp [den, denL, tabC], by rw [hT]; exact (hL.below hr3.keeps.toBelow).mono fun x _ h => .inl h, by rw [hX]; exact OwS.nil.rd, hr3.keeps.toBelow⟩).1
  rw [if_pos hH] at hX
  have hho : holdX t o.a = getK t.L o.a := if_pos hH
  refine seg cfg19_ok mixed PanicFree.body 1000 [false] [] h2 (by first | trivial | exact HpRep.nil | assumption) (by kernel_rfl) fun s_ hs_ => ?_
  simp (maxSteps := 10000000) [SX.vc, SX.stop, SX.contS, SX.contB, SX.contW, SX.contR, SX.contD, SX.sxStep, SX.stepPure, SX.stepNew, SX.stepStore, SX.stepKeep, SX.guardIx, SX.evOp, SX.opd, SX.opds, SX.optOpd, SX.look, SX.putS, SX.gobs, SX.AllP, SX.leave, SX.lookC, SX.lookB, SX.lookT, SX.lookN, SX.findK, SX.evBuiltin, SX.ints, SX.foldI, SX.evBin, SX.evInt, SX.evStr, SX.evEq, SX.arith, SX.evLoad, SX.shapeUp, SX.evFieldAddr, SX.evField, SX.evIndexAddr, SX.evIndex, SX.evFill, SX.evBuild, SX.szs, SX.cellsV, SX.evNew, SX.evStore, SX.spliceL, SX.SV.cells, SX.evConv, SX.evSlice, SX.bnd, SX.evNil, SX.evUn, SX.evPick, SX.pickOpd, SX.popTo, SX.cnd, SX.env0, SX.TD.isAgg, SX.TD.isIface, SX.tails, SX.NotAgg, SX.evLookup, SX.evConvH, SX.evPtrEq, SX.isCells, SX.thaw, SX.frz, SX.fixB, SX.rootIx, SX.Froz, SX.frzStep, SX.fork, Go.Value.cells, Go.undef, cfg19, hH, lseC]
  refine ⟨by (unfold SX.Ob; first | trivial | omega | ((try simp only [SX.inK]); (try simp [SX.den, SX.IsU8, SX.AllP, *]); (try omega))), ?_⟩
  intro a3 w3 hr3 ht3
  refine post_both ?_ ?_
  · refine seg cfg19_ok mixed PanicFree.body 1000 [] [] hr3 (by first | trivial | exact HpRep.nil | assumption) (by kernel_rfl) fun s_ hs_ => ?_
    simp (maxSteps := 10000000) [SX.vc, SX.stop, SX.contS, SX.contB, SX.contW, SX.contR, SX.contD, SX.sxStep, SX.stepPure, SX.stepNew, SX.stepStore, SX.stepKeep, SX.guardIx, SX.evOp, SX.opd, SX.opds, SX.optOpd, SX.look, SX.putS, SX.gobs, SX.AllP, SX.leave, SX.lookC, SX.lookB, SX.lookT, SX.lookN, SX.findK, SX.evBuiltin, SX.ints, SX.foldI, SX.evBin, SX.evInt, SX.evStr, SX.evEq, SX.arith, SX.evLoad, SX.shapeUp, SX.evFieldAddr, SX.evField, SX.evIndexAddr, SX.evIndex, SX.evFill, SX.evBuild, SX.szs, SX.cellsV, SX.evNew, SX.evStore, SX.spliceL, SX.SV.cells, SX.evConv, SX.evSlice, SX.bnd, SX.evNil, SX.evUn, SX.evPick, SX.pickOpd, SX.popTo, SX.cnd, SX.env0, SX.TD.isAgg, SX.TD.isIface, SX.tails, SX.NotAgg, SX.evLookup, SX.evConvH, SX.evPtrEq, SX.isCells, SX.thaw, SX.frz, SX.fixB, SX.rootIx, SX.Froz, SX.frzStep, SX.fork, Go.Value.cells, Go.undef, cfg19]
    refine ⟨by (unfold SX.Ob; first | trivial | omega | ((try simp only [SX.inK]); (try simp [SX.den, SX.IsU8, SX.AllP, *]); (try omega))), ?_⟩
    intro a4 w4 hr4 _
    have hS := (RdS.lit (enc := lseC) (sz := 4) (d := lse0) (x := getK t.L o.a) hr4.all.2.2.2.2.1.1 (by simp [lseC, hho])).mono (P' := fun x => w.heap.size ≤ x) fun x _ h => by
      rcases hr4.all.2.2.2.2.1.2.1 rfl with h' | h'
      · rw [h]; exact h'
      · cases h'
    exact post_retn (endCTT hr4 rfl rfl rfl tok24 rfl rfl rfl ⟨.slice ad t.L.length cp, _, by rw [hE, hT]; simp [den, denL, tabC]; rfl, by rw [hT]; exact (hL.below hr4.keeps.toBelow).mono fun x _ h => .inl h, by rw [hX]; exact hS, hr4.keeps.toBelow⟩).1
  · refine seg cfg19_ok mixed PanicFree.body 1000 [] [] hr3 (by first | trivial | exact HpRep.nil | assumption) (by kernel_rfl) fun s_ hs_ => ?_
    simp (maxSteps := 10000000) [SX.vc, SX.stop, SX.contS, SX.contB, SX.contW, SX.contR, SX.contD, SX.sxStep, SX.stepPure, SX.stepNew, SX.stepStore, SX.stepKeep, SX.guardIx, SX.evOp, SX.opd, SX.opds, SX.optOpd, SX.look, SX.putS, SX.gobs, SX.AllP, SX.leave, SX.lookC, SX.lookB, SX.lookT, SX.lookN, SX.findK, SX.evBuiltin, SX.ints, SX.foldI, SX.evBin, SX.evInt, SX.evStr, SX.evEq, SX.arith, SX.evLoad, SX.shapeUp, SX.evFieldAddr, SX.evField, SX.evIndexAddr, SX.evIndex, SX.evFill, SX.evBuild, SX.szs, SX.cellsV, SX.evNew, SX.evStore, SX.spliceL, SX.SV.cells, SX.evConv, SX.evSlice, SX.bnd, SX.evNil, SX.evUn, SX.evPick, SX.pickOpd, SX.popTo, SX.cnd, SX.env0, SX.TD.isAgg, SX.TD.isIface, SX.tails, SX.NotAgg, SX.evLookup, SX.evConvH, SX.evPtrEq, SX.isCells, SX.thaw, SX.frz, SX.fixB, SX.rootIx, SX.Froz, SX.frzStep, SX.fork, Go.Value.cells, Go.undef, cfg19]
    refine ⟨by (unfold SX.Ob; first | trivial | omega | ((try simp only [SX.inK]); (try simp [SX.den, SX.IsU8, SX.AllP, *]); (try omega))), ?_⟩
    intro a4 w4 hr4 _
    have hS := (RdS.lit (enc := lseC) (sz := 4) (d := lse0) (x := getK t.L o.a) hr4.all.2.2.2.2.1.1 (by simp [lseC, hho])).mono (P' := fun x => w.heap.size ≤ x) fun x _ h => by
      rcases hr4.all.2.2.2.2.1.2.1 rfl with h' | h'
      · rw [h]; exact h'
      · cases h'
    exact post_retn (endCTT hr4 rfl rfl rfl tok24 rfl rfl rfl ⟨.slice ad t.L.length cp, _, by rw [hE, hT]; simp [den, denL, tabC]; rfl, by rw [hT]; exact (hL.below hr4.keeps.toBelow).mono fun x _ h => .inl h, by rw [hX]; exact hS, hr4.keeps.toBelow⟩).1
end Go.Proofs
