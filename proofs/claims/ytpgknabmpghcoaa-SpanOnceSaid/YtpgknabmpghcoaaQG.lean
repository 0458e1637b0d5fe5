/- Spans: SpanOnce walked. -/
import Derived.Test.YtpgknabmpghcoaaQF
import Derived.Test.YtpgknabmpghcoaaQE
import Derived.Test.YtpgknabmpghcoaaPR
import Derived.Test.YtpgknabmpghcoaaPU
namespace Go.Proofs
set_option linter.unusedVariables false
set_option linter.unusedSimpArgs false
open Go Go.SX Go.RowKit

def EdgeB (w : World) (n : Int) (l : Nat) (e : Ending) (w' : World) : Prop := ∃ v' E, e = .returned v' ∧ RdI (fun x => w.heap.size ≤ x) w' v' E ∧ (∀ k ∈ E, 0 ≤ k ∧ k < n) ∧ E.length ≤ l ∧ Below w.heap.size w w'
theorem edges_nil {P : Nat → Prop} (w : World) (v : Value) (L : List Spn) (hL : RdP P w v L) (hC : ChkP L) (hn : L.length ≤ 10000) : Calls Try.prog 15 (denL [.v v, .v (.slice none 0 0)]).toArray w (EdgeB w (endS 0 L) 100000) :=
  (edges_ok w v _ L [] [] hL hC (by simp) OwS.nil hn (by simp) (by simp)).mono fun e w' ⟨v', E, h1, h2, h3, h4, h5⟩ => ⟨v', E, h1, h2, h3, h4, Keeps.toBelow h5⟩

def O1Loop (ws : World) (E : List Int) (ve vm vl : Value) (f t o e : Int) (m : Nat) (a : Act) (w' : World) : Prop :=
  ∃ k : Nat, m = E.length - k ∧ k ≤ E.length ∧ RepX (frameAt ws []) ⟨[(85, 0, .v (.int .i64 k)), (84, 0, .v (.int .i64 E.length)), (83, 0, .v ve), (12, 0, .v vm), (0, 0, .v vl), (1, 0, .v (.int .i64 f)), (2, 0, .v (.int .i64 t)), (3, 0, .v (.int .i64 o)), (4, 0, .v (.int .i64 e)), (11, 0, .v (.bool true)), (10, 0, .v (.bool false))], [], 0, 0, 209, [], [], []⟩ a w'
def O2Loop (ws : World) (W : List Spn) (vw vm vn : Value) (f t o : Int) (m : Nat) (a : Act) (w' : World) : Prop :=
  ∃ k : Nat, m = W.length - k ∧ k ≤ W.length ∧ RepX (frameAt ws []) ⟨[(132, 0, .v (.int .i64 k)), (131, 0, .v (.int .i64 W.length)), (130, 0, .v vw), (23, 0, .v (.int .i64 (sumS (W.take k)))), (20, 0, .v vn), (22, 0, .v (.int .i64 0)), (12, 0, .v vm), (1, 0, .v (.int .i64 f)), (2, 0, .v (.int .i64 t)), (3, 0, .v (.int .i64 o)), (11, 0, .v (.bool true)), (10, 0, .v (.bool false))], [], 0, 0, 209, [], [], []⟩ a w'
def O3Loop (ws : World) (E : List Int) (ve vm vn : Value) (o : Int) (m : Nat) (a : Act) (w' : World) : Prop :=
  ∃ k : Nat, m = E.length - k ∧ k ≤ E.length ∧ RepX (frameAt ws []) ⟨[(174, 0, .v (.int .i64 k)), (173, 0, .v (.int .i64 E.length)), (172, 0, .v ve), (12, 0, .v vm), (20, 0, .v vn), (3, 0, .v (.int .i64 o)), (11, 0, .v (.bool true)), (10, 0, .v (.bool false))], [], 0, 0, 209, [], [], []⟩ a w'

set_option maxRecDepth 100000 in
set_option maxHeartbeats 32000000 in
/-- SpanOnce. -/
theorem once_ok (w : World) (v : Value) (L : List Spn) (f t o e : Int) (hL : RdP (fun x => x < w.heap.size) w v L) (hn : L.length ≤ 1000000000000000) : Calls Try.prog 5 #[v, .int .i64 f, .int .i64 t, .int .i64 o, .int .i64 e] w (fun ev w' => ev = .returned (.bool true) ∧ Below w.heap.size w w') := by
  obtain ⟨ad, cp, rfl⟩ := hL.slice
  refine enter (F := frame0 w) Try.func5 rfl [.v (.slice ad L.length cp), .v (.int .i64 f), .v (.int .i64 t), .v (.int .i64 o), .v (.int .i64 e)] [] (by simp [Try.f5, denL, den]) trivial (keeps0 w) fun a hr => ?_
  refine seg cfg5_ok mixed PanicFree.body 1000 [] [] hr (by first | trivial | exact HpRep.nil | assumption) (by kernel_rfl) fun s_ hs_ => ?_
  simp (maxSteps := 10000000) [SX.vc, SX.stop, SX.contS, SX.contB, SX.contW, SX.contR, SX.contD, SX.sxStep, SX.stepPure, SX.stepNew, SX.stepStore, SX.stepKeep, SX.guardIx, SX.evOp, SX.opd, SX.opds, SX.optOpd, SX.look, SX.putS, SX.gobs, SX.AllP, SX.leave, SX.lookC, SX.lookB, SX.lookT, SX.lookN, SX.findK, SX.evBuiltin, SX.ints, SX.foldI, SX.evBin, SX.evInt, SX.evStr, SX.evEq, SX.arith, SX.evLoad, SX.shapeUp, SX.evFieldAddr, SX.evField, SX.evIndexAddr, SX.evIndex, SX.evFill, SX.evBuild, SX.szs, SX.cellsV, SX.evNew, SX.evStore, SX.spliceL, SX.SV.cells, SX.evConv, SX.evSlice, SX.bnd, SX.evNil, SX.evUn, SX.evPick, SX.pickOpd, SX.popTo, SX.cnd, SX.env0, SX.TD.isAgg, SX.TD.isIface, SX.tails, SX.NotAgg, SX.evLookup, SX.evConvH, SX.evPtrEq, SX.isCells, SX.thaw, SX.frz, SX.fixB, SX.rootIx, SX.Froz, SX.frzStep, SX.fork, Go.Value.cells, Go.undef, cfg5, Try.f5]
  refine ⟨by (unfold SX.Ob; first | trivial | omega | ((try simp only [SX.inK]); (try simp [SX.den, SX.IsU8, SX.AllP, *]); (try omega))), ?_⟩
  intro a1 w1 hr1 _
  refine post_call 8 [] hr1 (by first | exact wanted_none rfl | exact wanted_zero (hr1.env.same rfl rfl rfl rfl) rfl (by simp)) rfl (callable 8 Try.func8) (live_ok w1) ?_
  rintro e2' w2 ⟨rfl, hb2⟩
  refine ⟨_, rfl, ?_⟩
  have h2 := hr1.ret hb2 32 (.v (.bool true)) rfl _ (hr1.all.below hb2) (by simp) rfl
  by_cases c1 : 100 < L.length
  · have c1' : (100 : Int) < (L.length : Int) := by omega
    refine seg cfg5_ok mixed PanicFree.body 1000 [true] [(36, true)] h2 (by first | trivial | exact HpRep.nil | assumption) (by kernel_rfl) fun s_ hs_ => ?_
    simp (maxSteps := 10000000) [SX.vc, SX.stop, SX.contS, SX.contB, SX.contW, SX.contR, SX.contD, SX.sxStep, SX.stepPure, SX.stepNew, SX.stepStore, SX.stepKeep, SX.guardIx, SX.evOp, SX.opd, SX.opds, SX.optOpd, SX.look, SX.putS, SX.gobs, SX.AllP, SX.leave, SX.lookC, SX.lookB, SX.lookT, SX.lookN, SX.findK, SX.evBuiltin, SX.ints, SX.foldI, SX.evBin, SX.evInt, SX.evStr, SX.evEq, SX.arith, SX.evLoad, SX.shapeUp, SX.evFieldAddr, SX.evField, SX.evIndexAddr, SX.evIndex, SX.evFill, SX.evBuild, SX.szs, SX.cellsV, SX.evNew, SX.evStore, SX.spliceL, SX.SV.cells, SX.evConv, SX.evSlice, SX.bnd, SX.evNil, SX.evUn, SX.evPick, SX.pickOpd, SX.popTo, SX.cnd, SX.env0, SX.TD.isAgg, SX.TD.isIface, SX.tails, SX.NotAgg, SX.evLookup, SX.evConvH, SX.evPtrEq, SX.isCells, SX.thaw, SX.frz, SX.fixB, SX.rootIx, SX.Froz, SX.frzStep, SX.fork, Go.Value.cells, Go.undef, cfg5, c1']
    refine ⟨by (unfold SX.Ob; first | trivial | omega | ((try simp only [SX.inK]); (try simp [SX.den, SX.IsU8, SX.AllP, *]); (try omega))), ?_⟩
    intro a3 w3 hr3 _
    exact post_retn (end1 hr3 rfl rfl ⟨rfl, hr3.keeps.toBelow⟩).1
  have c1' : ¬ (100 : Int) < (L.length : Int) := by omega
  refine seg cfg5_ok mixed PanicFree.body 1000 [] [(36, false)] h2 (by first | trivial | exact HpRep.nil | assumption) (by kernel_rfl) fun s_ hs_ => ?_
  simp (maxSteps := 10000000) [SX.vc, SX.stop, SX.contS, SX.contB, SX.contW, SX.contR, SX.contD, SX.sxStep, SX.stepPure, SX.stepNew, SX.stepStore, SX.stepKeep, SX.guardIx, SX.evOp, SX.opd, SX.opds, SX.optOpd, SX.look, SX.putS, SX.gobs, SX.AllP, SX.leave, SX.lookC, SX.lookB, SX.lookT, SX.lookN, SX.findK, SX.evBuiltin, SX.ints, SX.foldI, SX.evBin, SX.evInt, SX.evStr, SX.evEq, SX.arith, SX.evLoad, SX.shapeUp, SX.evFieldAddr, SX.evField, SX.evIndexAddr, SX.evIndex, SX.evFill, SX.evBuild, SX.szs, SX.cellsV, SX.evNew, SX.evStore, SX.spliceL, SX.SV.cells, SX.evConv, SX.evSlice, SX.bnd, SX.evNil, SX.evUn, SX.evPick, SX.pickOpd, SX.popTo, SX.cnd, SX.env0, SX.TD.isAgg, SX.TD.isIface, SX.tails, SX.NotAgg, SX.evLookup, SX.evConvH, SX.evPtrEq, SX.isCells, SX.thaw, SX.frz, SX.fixB, SX.rootIx, SX.Froz, SX.frzStep, SX.fork, Go.Value.cells, Go.undef, cfg5, c1']
  refine ⟨by (unfold SX.Ob; first | trivial | omega | ((try simp only [SX.inK]); (try simp [SX.den, SX.IsU8, SX.AllP, *]); (try omega))), ?_⟩
  intro a3 w3 hr3 _
  refine post_call 11 [.v (.slice ad L.length cp)] hr3 (by first | exact wanted_none rfl | exact wanted_zero (hr3.env.same rfl rfl rfl rfl) rfl (by simp)) rfl (callable 11 Try.func11) (rcheck_ok w3 _ L (hL.below hr3.keeps.toBelow) hn) ?_
  rintro e4 w4 ⟨rfl, hb4⟩
  refine ⟨_, rfl, ?_⟩
  have h4 := hr3.ret hb4 38 (.v (.int .i64 (chkP L))) rfl _ (hr3.all.below hb4) (by simp) rfl
  by_cases hC : ChkP L
  rotate_left
  · have hc : chkP L = 1 := if_neg hC
    refine seg cfg5_ok mixed PanicFree.body 1000 [true] [(36, false)] h4 (by first | trivial | exact HpRep.nil | assumption) (by kernel_rfl) fun s_ hs_ => ?_
    simp (maxSteps := 10000000) [SX.vc, SX.stop, SX.contS, SX.contB, SX.contW, SX.contR, SX.contD, SX.sxStep, SX.stepPure, SX.stepNew, SX.stepStore, SX.stepKeep, SX.guardIx, SX.evOp, SX.opd, SX.opds, SX.optOpd, SX.look, SX.putS, SX.gobs, SX.AllP, SX.leave, SX.lookC, SX.lookB, SX.lookT, SX.lookN, SX.findK, SX.evBuiltin, SX.ints, SX.foldI, SX.evBin, SX.evInt, SX.evStr, SX.evEq, SX.arith, SX.evLoad, SX.shapeUp, SX.evFieldAddr, SX.evField, SX.evIndexAddr, SX.evIndex, SX.evFill, SX.evBuild, SX.szs, SX.cellsV, SX.evNew, SX.evStore, SX.spliceL, SX.SV.cells, SX.evConv, SX.evSlice, SX.bnd, SX.evNil, SX.evUn, SX.evPick, SX.pickOpd, SX.popTo, SX.cnd, SX.env0, SX.TD.isAgg, SX.TD.isIface, SX.tails, SX.NotAgg, SX.evLookup, SX.evConvH, SX.evPtrEq, SX.isCells, SX.thaw, SX.frz, SX.fixB, SX.rootIx, SX.Froz, SX.frzStep, SX.fork, Go.Value.cells, Go.undef, cfg5, hc]
    refine ⟨by (unfold SX.Ob; first | trivial | omega | ((try simp only [SX.inK]); (try simp [SX.den, SX.IsU8, SX.AllP, *]); (try omega))), ?_⟩
    intro a5 w5 hr5 _
    exact post_retn (end1 hr5 rfl rfl ⟨rfl, hr5.keeps.toBelow⟩).1
  have hc : chkP L = 0 := if_pos hC
  refine seg cfg5_ok mixed PanicFree.body 1000 [false] [(36, false)] h4 (by first | trivial | exact HpRep.nil | assumption) (by kernel_rfl) fun s_ hs_ => ?_
  simp (maxSteps := 10000000) [SX.vc, SX.stop, SX.contS, SX.contB, SX.contW, SX.contR, SX.contD, SX.sxStep, SX.stepPure, SX.stepNew, SX.stepStore, SX.stepKeep, SX.guardIx, SX.evOp, SX.opd, SX.opds, SX.optOpd, SX.look, SX.putS, SX.gobs, SX.AllP, SX.leave, SX.lookC, SX.lookB, SX.lookT, SX.lookN, SX.findK, SX.evBuiltin, SX.ints, SX.foldI, SX.evBin, SX.evInt, SX.evStr, SX.evEq, SX.arith, SX.evLoad, SX.shapeUp, SX.evFieldAddr, SX.evField, SX.evIndexAddr, SX.evIndex, SX.evFill, SX.evBuild, SX.szs, SX.cellsV, SX.evNew, SX.evStore, SX.spliceL, SX.SV.cells, SX.evConv, SX.evSlice, SX.bnd, SX.evNil, SX.evUn, SX.evPick, SX.pickOpd, SX.popTo, SX.cnd, SX.env0, SX.TD.isAgg, SX.TD.isIface, SX.tails, SX.NotAgg, SX.evLookup, SX.evConvH, SX.evPtrEq, SX.isCells, SX.thaw, SX.frz, SX.fixB, SX.rootIx, SX.Froz, SX.frzStep, SX.fork, Go.Value.cells, Go.undef, cfg5, hc]
  refine ⟨by (unfold SX.Ob; first | trivial | omega | ((try simp only [SX.inK]); (try simp [SX.den, SX.IsU8, SX.AllP, *]); (try omega))), ?_⟩
  intro a5 w5 hr5 _
  refine post_call 10 [.v (.slice ad L.length cp), .v (.int .i64 f), .v (.int .i64 t), .v (.int .i64 o), .v (.int .i64 e)] hr5 (by first | exact wanted_none rfl | exact wanted_zero (hr5.env.same rfl rfl rfl rfl) rfl (by simp)) rfl (callable 10 Try.func10) (Give_ok w5 _ L f t o e (hL.below hr5.keeps.toBelow) (by omega)) ?_
  rintro e6 w6 ⟨vm, rfl, hO6, hb6⟩
  refine ⟨_, rfl, ?_⟩
  have h6 := hr5.ret hb6 48 (.tu [.v vm, .v (.int .i64 (giveE L f t o e))]) rfl _ (hr5.all.below hb6) (by simp) rfl
  by_cases hE : giveE L f t o e = 0
  rotate_left
  · rw [giveL_nil hE] at hO6
    obtain ⟨adm, cpm, rfl⟩ := hO6.slice
    refine seg cfg5_ok mixed PanicFree.body 1000 [true] [(54, true)] h6 (by first | trivial | exact HpRep.nil | assumption) (by kernel_rfl) fun s_ hs_ => ?_
    simp (maxSteps := 10000000) [SX.vc, SX.stop, SX.contS, SX.contB, SX.contW, SX.contR, SX.contD, SX.sxStep, SX.stepPure, SX.stepNew, SX.stepStore, SX.stepKeep, SX.guardIx, SX.evOp, SX.opd, SX.opds, SX.optOpd, SX.look, SX.putS, SX.gobs, SX.AllP, SX.leave, SX.lookC, SX.lookB, SX.lookT, SX.lookN, SX.findK, SX.evBuiltin, SX.ints, SX.foldI, SX.evBin, SX.evInt, SX.evStr, SX.evEq, SX.arith, SX.evLoad, SX.shapeUp, SX.evFieldAddr, SX.evField, SX.evIndexAddr, SX.evIndex, SX.evFill, SX.evBuild, SX.szs, SX.cellsV, SX.evNew, SX.evStore, SX.spliceL, SX.SV.cells, SX.evConv, SX.evSlice, SX.bnd, SX.evNil, SX.evUn, SX.evPick, SX.pickOpd, SX.popTo, SX.cnd, SX.env0, SX.TD.isAgg, SX.TD.isIface, SX.tails, SX.NotAgg, SX.evLookup, SX.evConvH, SX.evPtrEq, SX.isCells, SX.thaw, SX.frz, SX.fixB, SX.rootIx, SX.Froz, SX.frzStep, SX.fork, Go.Value.cells, Go.undef, cfg5, hE]
    refine ⟨by (unfold SX.Ob; first | trivial | omega | ((try simp only [SX.inK]); (try simp [SX.den, SX.IsU8, SX.AllP, *]); (try omega))), ?_⟩
    intro a7 w7 hr7 _
    exact post_retn (end1 hr7 rfl rfl ⟨rfl, hr7.keeps.toBelow⟩).1
  have hWM : Within L f t ∧ MayO o e := by
    rcases giveE_cases L f t o e with ⟨h, _⟩ | ⟨h, h', _⟩
    · rw [h] at hE; simp at hE
    · exact ⟨h, h'⟩
  obtain ⟨hW, hMO⟩ := hWM
  obtain ⟨g1, g2, g3, g4⟩ := give_facts hE
  have gl := give_len L f t o e
  obtain ⟨M, hM⟩ : ∃ M, giveL L f t o e = M := ⟨_, rfl⟩
  rw [hM] at hO6 g1 g2 g3 g4 gl
  have z5 : w.heap.size ≤ w5.heap.size := hr5.keeps.size
  have hM6 := hO6.rd.mono (P' := fun x => w.heap.size ≤ x) fun x _ h => by omega
  have hL6 := hL.below h6.keeps.toBelow
  obtain ⟨q, hq⟩ : ∃ q, M.length = q + 1 := ⟨M.length - 1, by have := g1.ne; omega⟩
  obtain ⟨ql, hql⟩ : ∃ q, L.length = q + 1 := ⟨L.length - 1, by have := hC.ne; omega⟩
  have hqM : q < M.length := by omega
  have hqL : ql < L.length := by omega
  obtain ⟨bm, om, cpm, um, fzm, hPm, rfl, hrepM⟩ := hM6.opn hqM
  obtain ⟨bl, ol, capl, ul, fzl, hPl, hvl, hrepL⟩ := hL6.opn hqL
  cases hvl
  obtain ⟨y, hy⟩ : ∃ y, nth spn0 M q = y := ⟨_, rfl⟩
  obtain ⟨yl, hyl⟩ : ∃ y, nth spn0 L ql = y := ⟨_, rfl⟩
  have hey := endS_nth M 0 q hq
  have hel := endS_nth L 0 ql hql
  rw [hy] at hey
  rw [hyl] at hel
  have hee : y.to = yl.to := by omega
  have hq2 : (M.length : Int) - 1 = (q : Int) := by omega
  have hq3 : (L.length : Int) - 1 = (ql : Int) := by omega
  have h6' := ((h6.top 48 (.tu [.sl 0 bm om 0 M.length cpm 4, .v (.int .i64 (giveE L f t o e))]) rfl (by simp [den, denL])).top 0 (.sl 1 bl ol 0 L.length cp 4) rfl (by simp [den])).see [(bm, false, .arr om M.length (fun j => spnC (nth spn0 M j)) 4 um fzm), (bl, false, .arr ol L.length (fun j => spnC (nth spn0 L j)) 4 ul fzl)] ⟨⟨hrepM, by simp, by simp; omega⟩, HpAll.one hrepL⟩
  have hcm : chkP M = 0 := if_pos g1
  refine seg cfg5_ok mixed PanicFree.body 1000 [false] [] h6'.rebase (by first | trivial | exact HpRep.nil | assumption) (by kernel_rfl) fun s_ hs_ => ?_
  simp (maxSteps := 10000000) [SX.vc, SX.stop, SX.contS, SX.contB, SX.contW, SX.contR, SX.contD, SX.sxStep, SX.stepPure, SX.stepNew, SX.stepStore, SX.stepKeep, SX.guardIx, SX.evOp, SX.opd, SX.opds, SX.optOpd, SX.look, SX.putS, SX.gobs, SX.AllP, SX.leave, SX.lookC, SX.lookB, SX.lookT, SX.lookN, SX.findK, SX.evBuiltin, SX.ints, SX.foldI, SX.evBin, SX.evInt, SX.evStr, SX.evEq, SX.arith, SX.evLoad, SX.shapeUp, SX.evFieldAddr, SX.evField, SX.evIndexAddr, SX.evIndex, SX.evFill, SX.evBuild, SX.szs, SX.cellsV, SX.evNew, SX.evStore, SX.spliceL, SX.SV.cells, SX.evConv, SX.evSlice, SX.bnd, SX.evNil, SX.evUn, SX.evPick, SX.pickOpd, SX.popTo, SX.cnd, SX.env0, SX.TD.isAgg, SX.TD.isIface, SX.tails, SX.NotAgg, SX.evLookup, SX.evConvH, SX.evPtrEq, SX.isCells, SX.thaw, SX.frz, SX.fixB, SX.rootIx, SX.Froz, SX.frzStep, SX.fork, Go.Value.cells, Go.undef, cfg5, hE]
  refine ⟨by (unfold SX.Ob; first | trivial | omega | ((try simp only [SX.inK]); (try simp [SX.den, SX.IsU8, SX.AllP, *]); (try omega))), ?_⟩
  intro a7 w7 hr7' ht7'
  have hM7 := hM6.keep hr7'.keeps (by simp [frameAt, mutB])
  refine post_callD 11 [.sl 0 bm om 0 M.length cpm 4] hr7' rfl (by first | exact wanted_none rfl | exact wanted_zero (hr7'.env.same rfl rfl rfl rfl) rfl (by simp)) rfl (callable 11 Try.func11) (rcheck_ok w7 _ M hM7 (by omega)) ?_
  rintro e8 w8 ⟨rfl, hb8⟩
  have ht8' := HpRep_below ht7' hb8
  refine ⟨_, rfl, ht8', ?_⟩
  have hr8' := hr7'.ret hb8 60 (.v (.int .i64 (chkP M))) rfl _ (hr7'.all.below hb8) (by simp) rfl
  refine seg cfg5_ok mixed PanicFree.body 1000 [false] [(62, false)] hr8' (by first | trivial | exact HpRep.nil | assumption) (by kernel_rfl) fun sA hsA => ?_
  simp (maxSteps := 10000000) [SX.vc, SX.stop, SX.contS, SX.contB, SX.contW, SX.contR, SX.contD, SX.sxStep, SX.stepPure, SX.stepNew, SX.stepStore, SX.stepKeep, SX.guardIx, SX.evOp, SX.opd, SX.opds, SX.optOpd, SX.look, SX.putS, SX.gobs, SX.AllP, SX.leave, SX.lookC, SX.lookB, SX.lookT, SX.lookN, SX.findK, SX.evBuiltin, SX.ints, SX.foldI, SX.evBin, SX.evInt, SX.evStr, SX.evEq, SX.arith, SX.evLoad, SX.shapeUp, SX.evFieldAddr, SX.evField, SX.evIndexAddr, SX.evIndex, SX.evFill, SX.evBuild, SX.szs, SX.cellsV, SX.evNew, SX.evStore, SX.spliceL, SX.SV.cells, SX.evConv, SX.evSlice, SX.bnd, SX.evNil, SX.evUn, SX.evPick, SX.pickOpd, SX.popTo, SX.cnd, SX.env0, SX.TD.isAgg, SX.TD.isIface, SX.tails, SX.NotAgg, SX.evLookup, SX.evConvH, SX.evPtrEq, SX.isCells, SX.thaw, SX.frz, SX.fixB, SX.rootIx, SX.Froz, SX.frzStep, SX.fork, Go.Value.cells, Go.undef, cfg5, hcm, spnC, hq2, hq3, hy, hyl, hee]
  refine ⟨by (unfold SX.Ob; first | trivial | omega | ((try simp only [SX.inK]); (try simp [SX.den, SX.IsU8, SX.AllP, *]); (try omega))), ?_⟩
  intro a9 w9 hr9' _
  have hr9 := h6'.unbase hr9'
  have hM9 := (hM6.mono (P' := fun x => w.heap.size ≤ x ∧ x < w6.heap.size) fun x h1 h2 => ⟨h2, h1⟩).keep hr9'.keeps (by simp [frameAt, mutB])
  have hL9 := hL6.keep hr9'.keeps (by simp [frameAt, mutB])
  have z6 : w6.heap.size ≤ w9.heap.size := hr9'.keeps.size
  have hAs := hr9'.all.2.2.1
  have hsA6 : w6.heap.size ≤ sA := by
    rcases hAs.2.1 rfl with h | h
    · exact h
    · simp [frameAt, mutB] at h
  have hAI : OwI (fun x => x ∈ [sA]) w9 (.slice (some ⟨sA, 0, none⟩) 2 2) [f, t] := .inr ⟨sA, 2, 2, _, _, by simp, rfl, by omega, Nat.le_refl _, Nat.le_refl _, hAs.1, fun j hj => by
    have : j = 0 ∨ j = 1 := by simp at hj; omega
    rcases this with rfl | rfl <;> simp [intC, nth]⟩
  have hWe := hC.2.2
  have z56 : w.heap.size ≤ w6.heap.size := h6.keeps.size
  have hW1 := hW.2.1
  have hW2 := hW.2.2.1
  have hW3 := hW.2.2.2
  have hEd := edges_ok w9 _ _ L [f, t] [sA] hL9 hC (fun x hx => by simp only [List.mem_singleton] at hx; show ¬ x < w.heap.size; omega) hAI (by omega) (by simp) (fun a ha => by
    simp only [List.mem_cons, List.not_mem_nil, or_false] at ha
    rcases ha with rfl | rfl <;> omega)
  refine post_call 15 [.sl 1 bl ol 0 L.length cp 4, .sl 2 sA 0 0 2 2 1] hr9 (wanted_none rfl) rfl (callable 15 Try.func15) (by simpa [denL, den] using hEd) ?_
  rintro e10 w10 ⟨vE, E, rfl, hE10, hEr, hEl, hk10⟩
  refine ⟨_, rfl, ?_⟩
  have z9 : w.heap.size ≤ w9.heap.size := hr9.keeps.size
  have z10 : w9.heap.size ≤ w10.heap.size := hk10.size
  have h10 := hr9.retK hk10 (fun z hz => .inl (by
    simp only [List.mem_singleton] at hz
    show w.heap.size ≤ z
    omega)) 83 (.v vE) rfl [] trivial (by simp) rfl
  have hM10 := hM9.keep hk10 (fun x hx h => by simp only [List.mem_singleton] at hx; have := h.2; omega)
  have hL10 := hL9.keep hk10 (fun x hx h => by simp only [List.mem_singleton] at hx; have : x < w.heap.size := h; omega)
  obtain ⟨adE, cpE, rfl⟩ := hE10.slice
  refine seg cfg5_ok mixed PanicFree.body 1000 [] [] h10.rebase (by first | trivial | exact HpRep.nil | assumption) (by kernel_rfl) fun s_ hs_ => ?_
  simp (maxSteps := 10000000) [SX.vc, SX.stop, SX.contS, SX.contB, SX.contW, SX.contR, SX.contD, SX.sxStep, SX.stepPure, SX.stepNew, SX.stepStore, SX.stepKeep, SX.guardIx, SX.evOp, SX.opd, SX.opds, SX.optOpd, SX.look, SX.putS, SX.gobs, SX.AllP, SX.leave, SX.lookC, SX.lookB, SX.lookT, SX.lookN, SX.findK, SX.evBuiltin, SX.ints, SX.foldI, SX.evBin, SX.evInt, SX.evStr, SX.evEq, SX.arith, SX.evLoad, SX.shapeUp, SX.evFieldAddr, SX.evField, SX.evIndexAddr, SX.evIndex, SX.evFill, SX.evBuild, SX.szs, SX.cellsV, SX.evNew, SX.evStore, SX.spliceL, SX.SV.cells, SX.evConv, SX.evSlice, SX.bnd, SX.evNil, SX.evUn, SX.evPick, SX.pickOpd, SX.popTo, SX.cnd, SX.env0, SX.TD.isAgg, SX.TD.isIface, SX.tails, SX.NotAgg, SX.evLookup, SX.evConvH, SX.evPtrEq, SX.isCells, SX.thaw, SX.frz, SX.fixB, SX.rootIx, SX.Froz, SX.frzStep, SX.fork, Go.Value.cells, Go.undef, cfg5]
  refine ⟨by (unfold SX.Ob; first | trivial | omega | ((try simp only [SX.inK]); (try simp [SX.den, SX.IsU8, SX.AllP, *]); (try omega))), ?_⟩
  intro a11 w11 hr11' _
  have hr11 := h10.unbase hr11'
  have hM11 := (hM10.keep hr11'.keeps (by simp [frameAt, mutB])).mono (P' := fun _ => True) fun _ _ _ => trivial
  have hL11 := (hL10.keep hr11'.keeps (by simp [frameAt, mutB])).mono (P' := fun _ => True) fun _ _ _ => trivial
  have hE11 := (hE10.keep hr11'.keeps (by simp [frameAt, mutB])).mono (P' := fun _ => True) fun _ _ _ => trivial
  refine post_loop (O1Loop w11 E (.slice adE E.length cpE) (.slice (some ⟨bm, om, none⟩) M.length cpm) (.slice (some ⟨bl, ol, none⟩) L.length cp) f t o e) E.length ⟨0, rfl, by omega, hr11.rebase.re (by simp [envTo, SX.look, den]) trivial rfl rfl⟩ ?_
  rintro m a12 w12 ⟨k, rfl, hk, hr12⟩
  by_cases hlt : k < E.length
  · obtain ⟨b, o0, cap, u, fz, hP, hv, hrep⟩ := hE11.opn hlt
    cases hv
    have hrep2 := KeepsTo.same (M := []) hr12.keeps hrep (by simp)
    obtain ⟨x, hx⟩ : ∃ x, nth (0 : Int) E k = x := ⟨_, rfl⟩
    have hxr := hEr x (hx ▸ nth_mem hlt)
    have h13 := (hr12.top 83 (.sl 0 b o0 0 E.length cpE 1) rfl (by simp [den])).see _ (HpAll.one hrep2)
    refine seg cfg5_ok mixed PanicFree.body 1000 [true] [] h13 (by first | trivial | exact HpRep.nil | assumption) (by kernel_rfl) fun s_ hs_ => ?_
    simp (maxSteps := 10000000) [SX.vc, SX.stop, SX.contS, SX.contB, SX.contW, SX.contR, SX.contD, SX.sxStep, SX.stepPure, SX.stepNew, SX.stepStore, SX.stepKeep, SX.guardIx, SX.evOp, SX.opd, SX.opds, SX.optOpd, SX.look, SX.putS, SX.gobs, SX.AllP, SX.leave, SX.lookC, SX.lookB, SX.lookT, SX.lookN, SX.findK, SX.evBuiltin, SX.ints, SX.foldI, SX.evBin, SX.evInt, SX.evStr, SX.evEq, SX.arith, SX.evLoad, SX.shapeUp, SX.evFieldAddr, SX.evField, SX.evIndexAddr, SX.evIndex, SX.evFill, SX.evBuild, SX.szs, SX.cellsV, SX.evNew, SX.evStore, SX.spliceL, SX.SV.cells, SX.evConv, SX.evSlice, SX.bnd, SX.evNil, SX.evUn, SX.evPick, SX.pickOpd, SX.popTo, SX.cnd, SX.env0, SX.TD.isAgg, SX.TD.isIface, SX.tails, SX.NotAgg, SX.evLookup, SX.evConvH, SX.evPtrEq, SX.isCells, SX.thaw, SX.frz, SX.fixB, SX.rootIx, SX.Froz, SX.frzStep, SX.fork, Go.Value.cells, Go.undef, cfg5, intC, hx]
    refine ⟨by (unfold SX.Ob; first | trivial | omega | ((try simp only [SX.inK]); (try simp [SX.den, SX.IsU8, SX.AllP, *]); (try omega))), ?_⟩
    intro a14 w14 hr14 _
    have hM14 := hM11.keep hr14.keeps (by simp [frameAt, mutB])
    refine post_call 16 [.v (.slice (some ⟨bm, om, none⟩) M.length cpm), .v (.int .i64 x)] hr14 (by first | exact wanted_none rfl | exact wanted_zero (hr14.env.same rfl rfl rfl rfl) rfl (by simp)) rfl (callable 16 Try.func16) (whose_ok w14 _ M x hM14 (by omega) g1 hxr.1 (by omega)) ?_
    rintro e15 w15 ⟨u1, hu1, rfl, hb15⟩
    refine ⟨_, rfl, ?_⟩
    have h15 := hr14.ret hb15 92 (.tu [.v (.int .i64 u1.1), .v (.int .i64 u1.2)]) rfl _ (hr14.all.below hb15) (by simp) rfl
    refine seg cfg5_ok mixed PanicFree.body 1000 [] [] h15 (by first | trivial | exact HpRep.nil | assumption) (by kernel_rfl) fun s_ hs_ => ?_
    simp (maxSteps := 10000000) [SX.vc, SX.stop, SX.contS, SX.contB, SX.contW, SX.contR, SX.contD, SX.sxStep, SX.stepPure, SX.stepNew, SX.stepStore, SX.stepKeep, SX.guardIx, SX.evOp, SX.opd, SX.opds, SX.optOpd, SX.look, SX.putS, SX.gobs, SX.AllP, SX.leave, SX.lookC, SX.lookB, SX.lookT, SX.lookN, SX.findK, SX.evBuiltin, SX.ints, SX.foldI, SX.evBin, SX.evInt, SX.evStr, SX.evEq, SX.arith, SX.evLoad, SX.shapeUp, SX.evFieldAddr, SX.evField, SX.evIndexAddr, SX.evIndex, SX.evFill, SX.evBuild, SX.szs, SX.cellsV, SX.evNew, SX.evStore, SX.spliceL, SX.SV.cells, SX.evConv, SX.evSlice, SX.bnd, SX.evNil, SX.evUn, SX.evPick, SX.pickOpd, SX.popTo, SX.cnd, SX.env0, SX.TD.isAgg, SX.TD.isIface, SX.tails, SX.NotAgg, SX.evLookup, SX.evConvH, SX.evPtrEq, SX.isCells, SX.thaw, SX.frz, SX.fixB, SX.rootIx, SX.Froz, SX.frzStep, SX.fork, Go.Value.cells, Go.undef, cfg5]
    refine ⟨by (unfold SX.Ob; first | trivial | omega | ((try simp only [SX.inK]); (try simp [SX.den, SX.IsU8, SX.AllP, *]); (try omega))), ?_⟩
    intro a16 w16 hr16 _
    have hL16 := hL11.keep hr16.keeps (by simp [frameAt, mutB])
    refine post_call 16 [.v (.slice (some ⟨bl, ol, none⟩) L.length cp), .v (.int .i64 x)] hr16 (by first | exact wanted_none rfl | exact wanted_zero (hr16.env.same rfl rfl rfl rfl) rfl (by simp)) rfl (callable 16 Try.func16) (whose_ok w16 _ L x hL16 (by omega) hC hxr.1 (by omega)) ?_
    rintro e17 w17 ⟨u2, hu2, rfl, hb17⟩
    refine ⟨_, rfl, ?_⟩
    have h17 := hr16.ret hb17 98 (.tu [.v (.int .i64 u2.1), .v (.int .i64 u2.2)]) rfl _ (hr16.all.below hb17) (by simp) rfl
    have hg := (g4 x u1).1 hu1
    by_cases hfx : f ≤ x
    · by_cases hxt : x < t
      · rw [if_pos ⟨hfx, hxt⟩] at hg
        subst hg
        refine seg cfg5_ok mixed PanicFree.body 1000 [true, false] [(104, true), (114, false)] h17 (by first | trivial | exact HpRep.nil | assumption) (by kernel_rfl) fun s_ hs_ => ?_
        simp (maxSteps := 10000000) [SX.vc, SX.stop, SX.contS, SX.contB, SX.contW, SX.contR, SX.contD, SX.sxStep, SX.stepPure, SX.stepNew, SX.stepStore, SX.stepKeep, SX.guardIx, SX.evOp, SX.opd, SX.opds, SX.optOpd, SX.look, SX.putS, SX.gobs, SX.AllP, SX.leave, SX.lookC, SX.lookB, SX.lookT, SX.lookN, SX.findK, SX.evBuiltin, SX.ints, SX.foldI, SX.evBin, SX.evInt, SX.evStr, SX.evEq, SX.arith, SX.evLoad, SX.shapeUp, SX.evFieldAddr, SX.evField, SX.evIndexAddr, SX.evIndex, SX.evFill, SX.evBuild, SX.szs, SX.cellsV, SX.evNew, SX.evStore, SX.spliceL, SX.SV.cells, SX.evConv, SX.evSlice, SX.bnd, SX.evNil, SX.evUn, SX.evPick, SX.pickOpd, SX.popTo, SX.cnd, SX.env0, SX.TD.isAgg, SX.TD.isIface, SX.tails, SX.NotAgg, SX.evLookup, SX.evConvH, SX.evPtrEq, SX.isCells, SX.thaw, SX.frz, SX.fixB, SX.rootIx, SX.Froz, SX.frzStep, SX.fork, Go.Value.cells, Go.undef, cfg5, hfx, hxt]
        refine ⟨by (unfold SX.Ob; first | trivial | omega | ((try simp only [SX.inK]); (try simp [SX.den, SX.IsU8, SX.AllP, *]); (try omega))), ?_⟩
        intro a18 w18 hr18 _
        exact post_rnd (E.length - (k + 1)) (by omega) ⟨k + 1, rfl, hlt, hr18.re (by simp [envTo, SX.look, den]) trivial rfl rfl⟩
      · rw [if_neg fun h => hxt h.2] at hg
        obtain rfl := hasS_uniq hC.1 hg hu2
        refine seg cfg5_ok mixed PanicFree.body 1000 [false, false] [(104, true), (114, false)] h17 (by first | trivial | exact HpRep.nil | assumption) (by kernel_rfl) fun s_ hs_ => ?_
        simp (maxSteps := 10000000) [SX.vc, SX.stop, SX.contS, SX.contB, SX.contW, SX.contR, SX.contD, SX.sxStep, SX.stepPure, SX.stepNew, SX.stepStore, SX.stepKeep, SX.guardIx, SX.evOp, SX.opd, SX.opds, SX.optOpd, SX.look, SX.putS, SX.gobs, SX.AllP, SX.leave, SX.lookC, SX.lookB, SX.lookT, SX.lookN, SX.findK, SX.evBuiltin, SX.ints, SX.foldI, SX.evBin, SX.evInt, SX.evStr, SX.evEq, SX.arith, SX.evLoad, SX.shapeUp, SX.evFieldAddr, SX.evField, SX.evIndexAddr, SX.evIndex, SX.evFill, SX.evBuild, SX.szs, SX.cellsV, SX.evNew, SX.evStore, SX.spliceL, SX.SV.cells, SX.evConv, SX.evSlice, SX.bnd, SX.evNil, SX.evUn, SX.evPick, SX.pickOpd, SX.popTo, SX.cnd, SX.env0, SX.TD.isAgg, SX.TD.isIface, SX.tails, SX.NotAgg, SX.evLookup, SX.evConvH, SX.evPtrEq, SX.isCells, SX.thaw, SX.frz, SX.fixB, SX.rootIx, SX.Froz, SX.frzStep, SX.fork, Go.Value.cells, Go.undef, cfg5, hfx, hxt]
        refine ⟨by (unfold SX.Ob; first | trivial | omega | ((try simp only [SX.inK]); (try simp [SX.den, SX.IsU8, SX.AllP, *]); (try omega))), ?_⟩
        intro a18 w18 hr18 _
        exact post_rnd (E.length - (k + 1)) (by omega) ⟨k + 1, rfl, hlt, hr18.re (by simp [envTo, SX.look, den]) trivial rfl rfl⟩
    · rw [if_neg fun h => hfx h.1] at hg
      obtain rfl := hasS_uniq hC.1 hg hu2
      refine seg cfg5_ok mixed PanicFree.body 1000 [false, false] [(104, false), (114, false)] h17 (by first | trivial | exact HpRep.nil | assumption) (by kernel_rfl) fun s_ hs_ => ?_
      simp (maxSteps := 10000000) [SX.vc, SX.stop, SX.contS, SX.contB, SX.contW, SX.contR, SX.contD, SX.sxStep, SX.stepPure, SX.stepNew, SX.stepStore, SX.stepKeep, SX.guardIx, SX.evOp, SX.opd, SX.opds, SX.optOpd, SX.look, SX.putS, SX.gobs, SX.AllP, SX.leave, SX.lookC, SX.lookB, SX.lookT, SX.lookN, SX.findK, SX.evBuiltin, SX.ints, SX.foldI, SX.evBin, SX.evInt, SX.evStr, SX.evEq, SX.arith, SX.evLoad, SX.shapeUp, SX.evFieldAddr, SX.evField, SX.evIndexAddr, SX.evIndex, SX.evFill, SX.evBuild, SX.szs, SX.cellsV, SX.evNew, SX.evStore, SX.spliceL, SX.SV.cells, SX.evConv, SX.evSlice, SX.bnd, SX.evNil, SX.evUn, SX.evPick, SX.pickOpd, SX.popTo, SX.cnd, SX.env0, SX.TD.isAgg, SX.TD.isIface, SX.tails, SX.NotAgg, SX.evLookup, SX.evConvH, SX.evPtrEq, SX.isCells, SX.thaw, SX.frz, SX.fixB, SX.rootIx, SX.Froz, SX.frzStep, SX.fork, Go.Value.cells, Go.undef, cfg5, hfx]
      refine ⟨by (unfold SX.Ob; first | trivial | omega | ((try simp only [SX.inK]); (try simp [SX.den, SX.IsU8, SX.AllP, *]); (try omega))), ?_⟩
      intro a18 w18 hr18 _
      exact post_rnd (E.length - (k + 1)) (by omega) ⟨k + 1, rfl, hlt, hr18.re (by simp [envTo, SX.look, den]) trivial rfl rfl⟩
  obtain rfl : k = E.length := by omega
  by_cases ho : o < 0
  · refine seg cfg5_ok mixed PanicFree.body 1000 [false, true] [] hr12 (by first | trivial | exact HpRep.nil | assumption) (by kernel_rfl) fun s_ hs_ => ?_
    simp (maxSteps := 10000000) [SX.vc, SX.stop, SX.contS, SX.contB, SX.contW, SX.contR, SX.contD, SX.sxStep, SX.stepPure, SX.stepNew, SX.stepStore, SX.stepKeep, SX.guardIx, SX.evOp, SX.opd, SX.opds, SX.optOpd, SX.look, SX.putS, SX.gobs, SX.AllP, SX.leave, SX.lookC, SX.lookB, SX.lookT, SX.lookN, SX.findK, SX.evBuiltin, SX.ints, SX.foldI, SX.evBin, SX.evInt, SX.evStr, SX.evEq, SX.arith, SX.evLoad, SX.shapeUp, SX.evFieldAddr, SX.evField, SX.evIndexAddr, SX.evIndex, SX.evFill, SX.evBuild, SX.szs, SX.cellsV, SX.evNew, SX.evStore, SX.spliceL, SX.SV.cells, SX.evConv, SX.evSlice, SX.bnd, SX.evNil, SX.evUn, SX.evPick, SX.pickOpd, SX.popTo, SX.cnd, SX.env0, SX.TD.isAgg, SX.TD.isIface, SX.tails, SX.NotAgg, SX.evLookup, SX.evConvH, SX.evPtrEq, SX.isCells, SX.thaw, SX.frz, SX.fixB, SX.rootIx, SX.Froz, SX.frzStep, SX.fork, Go.Value.cells, Go.undef, cfg5, ho]
    refine ⟨by (unfold SX.Ob; first | trivial | omega | ((try simp only [SX.inK]); (try simp [SX.den, SX.IsU8, SX.AllP, *]); (try omega))), ?_⟩
    intro a13 w13 hr13' _
    have hr13 := hr11.unbase hr13'
    exact post_retn (end1 hr13 rfl rfl ⟨rfl, hr13.keeps.toBelow⟩).1
  have hTO : TakeOK M o := ⟨g1, by omega, by unfold MayO at hMO; omega⟩
  obtain ⟨n1, n2, n3, n4, n5⟩ := take_facts hTO
  have ht0 : takeE M o = 0 := if_pos hTO
  have hTW : takeW M o = M.filter (ownS o) := if_pos hTO
  have hsum : sumS (takeW M o) = ownedS o M := by rw [hTW, sumS_own]
  have hWm : ∀ s ∈ takeW M o, s.fr < s.to ∧ 0 ≤ s.fr ∧ s.to ≤ endS 0 M := fun s hs => mem_chk g1 (by rw [hTW] at hs; exact (List.mem_filter.1 hs).1)
  have hob := ownedS_bound o g1.1
  have hge : t - f ≤ ownedS o M := owned_ge g1.1 hW1 (by omega) fun b b1 b2 => ⟨e, (g4 b _).2 (by rw [if_pos ⟨b1, b2⟩])⟩
  have lW := takeW_len M o
  have lN := takeL_len M o
  refine seg cfg5_ok mixed PanicFree.body 1000 [false, false] [] hr12 (by first | trivial | exact HpRep.nil | assumption) (by kernel_rfl) fun s_ hs_ => ?_
  simp (maxSteps := 10000000) [SX.vc, SX.stop, SX.contS, SX.contB, SX.contW, SX.contR, SX.contD, SX.sxStep, SX.stepPure, SX.stepNew, SX.stepStore, SX.stepKeep, SX.guardIx, SX.evOp, SX.opd, SX.opds, SX.optOpd, SX.look, SX.putS, SX.gobs, SX.AllP, SX.leave, SX.lookC, SX.lookB, SX.lookT, SX.lookN, SX.findK, SX.evBuiltin, SX.ints, SX.foldI, SX.evBin, SX.evInt, SX.evStr, SX.evEq, SX.arith, SX.evLoad, SX.shapeUp, SX.evFieldAddr, SX.evField, SX.evIndexAddr, SX.evIndex, SX.evFill, SX.evBuild, SX.szs, SX.cellsV, SX.evNew, SX.evStore, SX.spliceL, SX.SV.cells, SX.evConv, SX.evSlice, SX.bnd, SX.evNil, SX.evUn, SX.evPick, SX.pickOpd, SX.popTo, SX.cnd, SX.env0, SX.TD.isAgg, SX.TD.isIface, SX.tails, SX.NotAgg, SX.evLookup, SX.evConvH, SX.evPtrEq, SX.isCells, SX.thaw, SX.frz, SX.fixB, SX.rootIx, SX.Froz, SX.frzStep, SX.fork, Go.Value.cells, Go.undef, cfg5, ho]
  refine ⟨by (unfold SX.Ob; first | trivial | omega | ((try simp only [SX.inK]); (try simp [SX.den, SX.IsU8, SX.AllP, *]); (try omega))), ?_⟩
  intro a13 w13 hr13 _
  have hM13 := hM11.keep hr13.keeps (by simp [frameAt, mutB])
  refine post_call 17 [.v (.slice (some ⟨bm, om, none⟩) M.length cpm), .v (.int .i64 o)] hr13 (by first | exact wanted_none rfl | exact wanted_zero (hr13.env.same rfl rfl rfl rfl) rfl (by simp)) rfl (callable 17 Try.func17) (Take_ok w13 _ M o hM13 (by omega)) ?_
  rintro e14 w14 ⟨vn, vw, rfl, hN14, hV14, hb14⟩
  refine ⟨_, rfl, ?_⟩
  have h14 := hr13.ret hb14 126 (.tu [.v vn, .v vw, .v (.int .i64 (takeE M o))]) rfl _ (hr13.all.below hb14) (by simp) rfl
  obtain ⟨N, hN⟩ : ∃ N, takeL M o = N := ⟨_, rfl⟩
  obtain ⟨W, hWd⟩ : ∃ W, takeW M o = W := ⟨_, rfl⟩
  rw [hN] at hN14 n1 n2 n3 n4 n5 lN
  rw [hWd] at hV14 hsum hWm lW
  obtain ⟨adw, cpw, rfl⟩ := hV14.slice
  refine seg cfg5_ok mixed PanicFree.body 1000 [] [] h14.rebase (by first | trivial | exact HpRep.nil | assumption) (by kernel_rfl) fun s_ hs_ => ?_
  simp (maxSteps := 10000000) [SX.vc, SX.stop, SX.contS, SX.contB, SX.contW, SX.contR, SX.contD, SX.sxStep, SX.stepPure, SX.stepNew, SX.stepStore, SX.stepKeep, SX.guardIx, SX.evOp, SX.opd, SX.opds, SX.optOpd, SX.look, SX.putS, SX.gobs, SX.AllP, SX.leave, SX.lookC, SX.lookB, SX.lookT, SX.lookN, SX.findK, SX.evBuiltin, SX.ints, SX.foldI, SX.evBin, SX.evInt, SX.evStr, SX.evEq, SX.arith, SX.evLoad, SX.shapeUp, SX.evFieldAddr, SX.evField, SX.evIndexAddr, SX.evIndex, SX.evFill, SX.evBuild, SX.szs, SX.cellsV, SX.evNew, SX.evStore, SX.spliceL, SX.SV.cells, SX.evConv, SX.evSlice, SX.bnd, SX.evNil, SX.evUn, SX.evPick, SX.pickOpd, SX.popTo, SX.cnd, SX.env0, SX.TD.isAgg, SX.TD.isIface, SX.tails, SX.NotAgg, SX.evLookup, SX.evConvH, SX.evPtrEq, SX.isCells, SX.thaw, SX.frz, SX.fixB, SX.rootIx, SX.Froz, SX.frzStep, SX.fork, Go.Value.cells, Go.undef, cfg5, ht0]
  refine ⟨by (unfold SX.Ob; first | trivial | omega | ((try simp only [SX.inK]); (try simp [SX.den, SX.IsU8, SX.AllP, *]); (try omega))), ?_⟩
  intro a15 w15 hr15' _
  have hr15 := hr11.unbase (h14.unbase hr15')
  have hM15 := hM11.keep (h14.unbase hr15').keeps (by simp [frameAt, mutB])
  have hN15 := (hN14.keep hr15'.keeps (by simp [frameAt, mutB])).mono (P' := fun _ => True) fun _ _ _ => trivial
  have hV15 := (hV14.keep hr15'.keeps (by simp [frameAt, mutB])).mono (P' := fun _ => True) fun _ _ _ => trivial
  refine post_loop (O2Loop w15 W (.slice adw W.length cpw) (.slice (some ⟨bm, om, none⟩) M.length cpm) vn f t o) W.length ⟨0, rfl, by omega, hr15.rebase.re (by simp [envTo, SX.look, den, sumS]) trivial rfl rfl⟩ ?_
  rintro m a16 w16 ⟨k, rfl, hk, hr16⟩
  by_cases hlt : k < W.length
  · obtain ⟨b, o0, cap, u, fz, hP, hv, hrep⟩ := hV15.opn hlt
    cases hv
    have hrep2 := KeepsTo.same (M := []) hr16.keeps hrep (by simp)
    obtain ⟨x, hx⟩ : ∃ x, nth spn0 W k = x := ⟨_, rfl⟩
    have hxr := hWm x (hx ▸ nth_mem hlt)
    have s1 := sumS_take (fun s hs => (hWm s hs).1) k
    have s2 := sumS_take (fun s hs => (hWm s hs).1) (k + 1)
    have s3 : sumS (W.take (k + 1)) = sumS (W.take k) + (x.to - x.fr) := by
      rw [take_nth (d := spn0) hlt, sumS_append, hx]
      simp [sumS]
    obtain ⟨p, hp⟩ : ∃ p, sumS (W.take k) = p := ⟨_, rfl⟩
    rw [hp] at hr16 s1 s3
    have h17 := (hr16.top 130 (.sl 0 b o0 0 W.length cpw 4) rfl (by simp [den])).see _ (HpAll.one hrep2)
    refine seg cfg5_ok mixed PanicFree.body 1000 [true] [] h17 (by first | trivial | exact HpRep.nil | assumption) (by kernel_rfl) fun s_ hs_ => ?_
    simp (maxSteps := 10000000) [SX.vc, SX.stop, SX.contS, SX.contB, SX.contW, SX.contR, SX.contD, SX.sxStep, SX.stepPure, SX.stepNew, SX.stepStore, SX.stepKeep, SX.guardIx, SX.evOp, SX.opd, SX.opds, SX.optOpd, SX.look, SX.putS, SX.gobs, SX.AllP, SX.leave, SX.lookC, SX.lookB, SX.lookT, SX.lookN, SX.findK, SX.evBuiltin, SX.ints, SX.foldI, SX.evBin, SX.evInt, SX.evStr, SX.evEq, SX.arith, SX.evLoad, SX.shapeUp, SX.evFieldAddr, SX.evField, SX.evIndexAddr, SX.evIndex, SX.evFill, SX.evBuild, SX.szs, SX.cellsV, SX.evNew, SX.evStore, SX.spliceL, SX.SV.cells, SX.evConv, SX.evSlice, SX.bnd, SX.evNil, SX.evUn, SX.evPick, SX.pickOpd, SX.popTo, SX.cnd, SX.env0, SX.TD.isAgg, SX.TD.isIface, SX.tails, SX.NotAgg, SX.evLookup, SX.evConvH, SX.evPtrEq, SX.isCells, SX.thaw, SX.frz, SX.fixB, SX.rootIx, SX.Froz, SX.frzStep, SX.fork, Go.Value.cells, Go.undef, cfg5, spnC, hx]
    refine ⟨by (unfold SX.Ob; first | trivial | omega | ((try simp only [SX.inK]); (try simp [SX.den, SX.IsU8, SX.AllP, *]); (try omega))), ?_⟩
    intro a18 w18 hr18 _
    exact post_rnd (W.length - (k + 1)) (by omega) ⟨k + 1, rfl, hlt, hr18.re (by simp [envTo, SX.look, den, s3]) trivial rfl rfl⟩
  obtain rfl : k = W.length := by omega
  rw [List.take_length, hsum] at hr16
  have hcn : chkP N = 0 := if_pos n1
  refine seg cfg5_ok mixed PanicFree.body 1000 [false] [(146, false)] hr16 (by first | trivial | exact HpRep.nil | assumption) (by kernel_rfl) fun s_ hs_ => ?_
  simp (maxSteps := 10000000) [SX.vc, SX.stop, SX.contS, SX.contB, SX.contW, SX.contR, SX.contD, SX.sxStep, SX.stepPure, SX.stepNew, SX.stepStore, SX.stepKeep, SX.guardIx, SX.evOp, SX.opd, SX.opds, SX.optOpd, SX.look, SX.putS, SX.gobs, SX.AllP, SX.leave, SX.lookC, SX.lookB, SX.lookT, SX.lookN, SX.findK, SX.evBuiltin, SX.ints, SX.foldI, SX.evBin, SX.evInt, SX.evStr, SX.evEq, SX.arith, SX.evLoad, SX.shapeUp, SX.evFieldAddr, SX.evField, SX.evIndexAddr, SX.evIndex, SX.evFill, SX.evBuild, SX.szs, SX.cellsV, SX.evNew, SX.evStore, SX.spliceL, SX.SV.cells, SX.evConv, SX.evSlice, SX.bnd, SX.evNil, SX.evUn, SX.evPick, SX.pickOpd, SX.popTo, SX.cnd, SX.env0, SX.TD.isAgg, SX.TD.isIface, SX.tails, SX.NotAgg, SX.evLookup, SX.evConvH, SX.evPtrEq, SX.isCells, SX.thaw, SX.frz, SX.fixB, SX.rootIx, SX.Froz, SX.frzStep, SX.fork, Go.Value.cells, Go.undef, cfg5]
  refine ⟨by (unfold SX.Ob; first | trivial | omega | ((try simp only [SX.inK]); (try simp [SX.den, SX.IsU8, SX.AllP, *]); (try omega))), ?_⟩
  intro a17 w17 hr17 _
  have hN17 := hN15.keep hr17.keeps (by simp [frameAt, mutB])
  refine post_call 11 [.v vn] hr17 (by first | exact wanted_none rfl | exact wanted_zero (hr17.env.same rfl rfl rfl rfl) rfl (by simp)) rfl (callable 11 Try.func11) (rcheck_ok w17 _ N hN17 (by omega)) ?_
  rintro e18 w18 ⟨rfl, hb18⟩
  refine ⟨_, rfl, ?_⟩
  have h18 := hr17.ret hb18 148 (.v (.int .i64 (chkP N))) rfl _ (hr17.all.below hb18) (by simp) rfl
  refine seg cfg5_ok mixed PanicFree.body 1000 [] [(146, false), (151, false)] h18 (by first | trivial | exact HpRep.nil | assumption) (by kernel_rfl) fun s_ hs_ => ?_
  simp (maxSteps := 10000000) [SX.vc, SX.stop, SX.contS, SX.contB, SX.contW, SX.contR, SX.contD, SX.sxStep, SX.stepPure, SX.stepNew, SX.stepStore, SX.stepKeep, SX.guardIx, SX.evOp, SX.opd, SX.opds, SX.optOpd, SX.look, SX.putS, SX.gobs, SX.AllP, SX.leave, SX.lookC, SX.lookB, SX.lookT, SX.lookN, SX.findK, SX.evBuiltin, SX.ints, SX.foldI, SX.evBin, SX.evInt, SX.evStr, SX.evEq, SX.arith, SX.evLoad, SX.shapeUp, SX.evFieldAddr, SX.evField, SX.evIndexAddr, SX.evIndex, SX.evFill, SX.evBuild, SX.szs, SX.cellsV, SX.evNew, SX.evStore, SX.spliceL, SX.SV.cells, SX.evConv, SX.evSlice, SX.bnd, SX.evNil, SX.evUn, SX.evPick, SX.pickOpd, SX.popTo, SX.cnd, SX.env0, SX.TD.isAgg, SX.TD.isIface, SX.tails, SX.NotAgg, SX.evLookup, SX.evConvH, SX.evPtrEq, SX.isCells, SX.thaw, SX.frz, SX.fixB, SX.rootIx, SX.Froz, SX.frzStep, SX.fork, Go.Value.cells, Go.undef, cfg5, hcn]
  refine ⟨by (unfold SX.Ob; first | trivial | omega | ((try simp only [SX.inK]); (try simp [SX.den, SX.IsU8, SX.AllP, *]); (try omega))), ?_⟩
  intro a19 w19 hr19 _
  have hN19 := hN15.keep hr19.keeps (by simp [frameAt, mutB])
  refine post_call 18 [.v vn, .v (.int .i64 o)] hr19 (by first | exact wanted_none rfl | exact wanted_zero (hr19.env.same rfl rfl rfl rfl) rfl (by simp)) rfl (callable 18 Try.func18) (owned_ok w19 _ N o hN19 (by omega) n1) ?_
  rintro e20 w20 ⟨rfl, hb20⟩
  refine ⟨_, rfl, ?_⟩
  have h20 := hr19.ret hb20 154 (.v (.int .i64 (ownedS o N))) rfl _ (hr19.all.below hb20) (by simp) rfl
  refine seg cfg5_ok mixed PanicFree.body 1000 [] [(146, false), (151, false), (157, false)] h20 (by first | trivial | exact HpRep.nil | assumption) (by kernel_rfl) fun s_ hs_ => ?_
  simp (maxSteps := 10000000) [SX.vc, SX.stop, SX.contS, SX.contB, SX.contW, SX.contR, SX.contD, SX.sxStep, SX.stepPure, SX.stepNew, SX.stepStore, SX.stepKeep, SX.guardIx, SX.evOp, SX.opd, SX.opds, SX.optOpd, SX.look, SX.putS, SX.gobs, SX.AllP, SX.leave, SX.lookC, SX.lookB, SX.lookT, SX.lookN, SX.findK, SX.evBuiltin, SX.ints, SX.foldI, SX.evBin, SX.evInt, SX.evStr, SX.evEq, SX.arith, SX.evLoad, SX.shapeUp, SX.evFieldAddr, SX.evField, SX.evIndexAddr, SX.evIndex, SX.evFill, SX.evBuild, SX.szs, SX.cellsV, SX.evNew, SX.evStore, SX.spliceL, SX.SV.cells, SX.evConv, SX.evSlice, SX.bnd, SX.evNil, SX.evUn, SX.evPick, SX.pickOpd, SX.popTo, SX.cnd, SX.env0, SX.TD.isAgg, SX.TD.isIface, SX.tails, SX.NotAgg, SX.evLookup, SX.evConvH, SX.evPtrEq, SX.isCells, SX.thaw, SX.frz, SX.fixB, SX.rootIx, SX.Froz, SX.frzStep, SX.fork, Go.Value.cells, Go.undef, cfg5, n5]
  refine ⟨by (unfold SX.Ob; first | trivial | omega | ((try simp only [SX.inK]); (try simp [SX.den, SX.IsU8, SX.AllP, *]); (try omega))), ?_⟩
  intro a21 w21 hr21 _
  have hM21 := hM15.keep hr21.keeps (by simp [frameAt, mutB])
  refine post_call 18 [.v (.slice (some ⟨bm, om, none⟩) M.length cpm), .v (.int .i64 o)] hr21 (by first | exact wanted_none rfl | exact wanted_zero (hr21.env.same rfl rfl rfl rfl) rfl (by simp)) rfl (callable 18 Try.func18) (owned_ok w21 _ M o hM21 (by omega) g1) ?_
  rintro e22 w22 ⟨rfl, hb22⟩
  refine ⟨_, rfl, ?_⟩
  have h22 := hr21.ret hb22 161 (.v (.int .i64 (ownedS o M))) rfl _ (hr21.all.below hb22) (by simp) rfl
  have hlt5 : ¬ ownedS o M < t - f := by omega
  refine seg cfg5_ok mixed PanicFree.body 1000 [false] [(146, false), (151, false), (157, false), (164, false)] h22 (by first | trivial | exact HpRep.nil | assumption) (by kernel_rfl) fun s_ hs_ => ?_
  simp (maxSteps := 10000000) [SX.vc, SX.stop, SX.contS, SX.contB, SX.contW, SX.contR, SX.contD, SX.sxStep, SX.stepPure, SX.stepNew, SX.stepStore, SX.stepKeep, SX.guardIx, SX.evOp, SX.opd, SX.opds, SX.optOpd, SX.look, SX.putS, SX.gobs, SX.AllP, SX.leave, SX.lookC, SX.lookB, SX.lookT, SX.lookN, SX.findK, SX.evBuiltin, SX.ints, SX.foldI, SX.evBin, SX.evInt, SX.evStr, SX.evEq, SX.arith, SX.evLoad, SX.shapeUp, SX.evFieldAddr, SX.evField, SX.evIndexAddr, SX.evIndex, SX.evFill, SX.evBuild, SX.szs, SX.cellsV, SX.evNew, SX.evStore, SX.spliceL, SX.SV.cells, SX.evConv, SX.evSlice, SX.bnd, SX.evNil, SX.evUn, SX.evPick, SX.pickOpd, SX.popTo, SX.cnd, SX.env0, SX.TD.isAgg, SX.TD.isIface, SX.tails, SX.NotAgg, SX.evLookup, SX.evConvH, SX.evPtrEq, SX.isCells, SX.thaw, SX.frz, SX.fixB, SX.rootIx, SX.Froz, SX.frzStep, SX.fork, Go.Value.cells, Go.undef, cfg5, hlt5]
  refine ⟨by (unfold SX.Ob; first | trivial | omega | ((try simp only [SX.inK]); (try simp [SX.den, SX.IsU8, SX.AllP, *]); (try omega))), ?_⟩
  intro a23 w23 hr23 _
  have hM23 := hM15.keep hr23.keeps (by simp [frameAt, mutB])
  refine post_call 15 [.v (.slice (some ⟨bm, om, none⟩) M.length cpm), .v (.slice none 0 0)] hr23 (by first | exact wanted_none rfl | exact wanted_zero (hr23.env.same rfl rfl rfl rfl) rfl (by simp)) rfl (callable 15 Try.func15) (edges_nil w23 _ M hM23 g1 (by omega)) ?_
  rintro e24 w24 ⟨vE2, E2, rfl, hE24, hEr2, hEl2, hb24⟩
  refine ⟨_, rfl, ?_⟩
  have h24 := hr23.ret hb24 172 (.v vE2) rfl _ (hr23.all.below hb24) (by simp) rfl
  obtain ⟨adE2, cpE2, rfl⟩ := hE24.slice
  refine seg cfg5_ok mixed PanicFree.body 1000 [] [] h24.rebase (by first | trivial | exact HpRep.nil | assumption) (by kernel_rfl) fun s_ hs_ => ?_
  simp (maxSteps := 10000000) [SX.vc, SX.stop, SX.contS, SX.contB, SX.contW, SX.contR, SX.contD, SX.sxStep, SX.stepPure, SX.stepNew, SX.stepStore, SX.stepKeep, SX.guardIx, SX.evOp, SX.opd, SX.opds, SX.optOpd, SX.look, SX.putS, SX.gobs, SX.AllP, SX.leave, SX.lookC, SX.lookB, SX.lookT, SX.lookN, SX.findK, SX.evBuiltin, SX.ints, SX.foldI, SX.evBin, SX.evInt, SX.evStr, SX.evEq, SX.arith, SX.evLoad, SX.shapeUp, SX.evFieldAddr, SX.evField, SX.evIndexAddr, SX.evIndex, SX.evFill, SX.evBuild, SX.szs, SX.cellsV, SX.evNew, SX.evStore, SX.spliceL, SX.SV.cells, SX.evConv, SX.evSlice, SX.bnd, SX.evNil, SX.evUn, SX.evPick, SX.pickOpd, SX.popTo, SX.cnd, SX.env0, SX.TD.isAgg, SX.TD.isIface, SX.tails, SX.NotAgg, SX.evLookup, SX.evConvH, SX.evPtrEq, SX.isCells, SX.thaw, SX.frz, SX.fixB, SX.rootIx, SX.Froz, SX.frzStep, SX.fork, Go.Value.cells, Go.undef, cfg5]
  refine ⟨by (unfold SX.Ob; first | trivial | omega | ((try simp only [SX.inK]); (try simp [SX.den, SX.IsU8, SX.AllP, *]); (try omega))), ?_⟩
  intro a25 w25 hr25' _
  have hr25 := hr15.unbase (h24.unbase hr25')
  have hM25 := hM15.keep (h24.unbase hr25').keeps (by simp [frameAt, mutB])
  have hN25 := hN15.keep (h24.unbase hr25').keeps (by simp [frameAt, mutB])
  have hE25 := (hE24.keep hr25'.keeps (by simp [frameAt, mutB])).mono (P' := fun _ => True) fun _ _ _ => trivial
  refine post_loop (O3Loop w25 E2 (.slice adE2 E2.length cpE2) (.slice (some ⟨bm, om, none⟩) M.length cpm) vn o) E2.length ⟨0, rfl, by omega, hr25.rebase.re (by simp [envTo, SX.look, den]) trivial rfl rfl⟩ ?_
  rintro m a26 w26 ⟨k, rfl, hk, hr26⟩
  by_cases hlt : k < E2.length
  · obtain ⟨b, o0, cap, u, fz, hP, hv, hrep⟩ := hE25.opn hlt
    cases hv
    have hrep2 := KeepsTo.same (M := []) hr26.keeps hrep (by simp)
    obtain ⟨x, hx⟩ : ∃ x, nth (0 : Int) E2 k = x := ⟨_, rfl⟩
    have hxr := hEr2 x (hx ▸ nth_mem hlt)
    have h27 := (hr26.top 172 (.sl 0 b o0 0 E2.length cpE2 1) rfl (by simp [den])).see _ (HpAll.one hrep2)
    refine seg cfg5_ok mixed PanicFree.body 1000 [true] [] h27 (by first | trivial | exact HpRep.nil | assumption) (by kernel_rfl) fun s_ hs_ => ?_
    simp (maxSteps := 10000000) [SX.vc, SX.stop, SX.contS, SX.contB, SX.contW, SX.contR, SX.contD, SX.sxStep, SX.stepPure, SX.stepNew, SX.stepStore, SX.stepKeep, SX.guardIx, SX.evOp, SX.opd, SX.opds, SX.optOpd, SX.look, SX.putS, SX.gobs, SX.AllP, SX.leave, SX.lookC, SX.lookB, SX.lookT, SX.lookN, SX.findK, SX.evBuiltin, SX.ints, SX.foldI, SX.evBin, SX.evInt, SX.evStr, SX.evEq, SX.arith, SX.evLoad, SX.shapeUp, SX.evFieldAddr, SX.evField, SX.evIndexAddr, SX.evIndex, SX.evFill, SX.evBuild, SX.szs, SX.cellsV, SX.evNew, SX.evStore, SX.spliceL, SX.SV.cells, SX.evConv, SX.evSlice, SX.bnd, SX.evNil, SX.evUn, SX.evPick, SX.pickOpd, SX.popTo, SX.cnd, SX.env0, SX.TD.isAgg, SX.TD.isIface, SX.tails, SX.NotAgg, SX.evLookup, SX.evConvH, SX.evPtrEq, SX.isCells, SX.thaw, SX.frz, SX.fixB, SX.rootIx, SX.Froz, SX.frzStep, SX.fork, Go.Value.cells, Go.undef, cfg5, intC, hx]
    refine ⟨by (unfold SX.Ob; first | trivial | omega | ((try simp only [SX.inK]); (try simp [SX.den, SX.IsU8, SX.AllP, *]); (try omega))), ?_⟩
    intro a28 w28 hr28 _
    have hM28 := hM25.keep hr28.keeps (by simp [frameAt, mutB])
    refine post_call 16 [.v (.slice (some ⟨bm, om, none⟩) M.length cpm), .v (.int .i64 x)] hr28 (by first | exact wanted_none rfl | exact wanted_zero (hr28.env.same rfl rfl rfl rfl) rfl (by simp)) rfl (callable 16 Try.func16) (whose_ok w28 _ M x hM28 (by omega) g1 hxr.1 hxr.2) ?_
    rintro e29 w29 ⟨u1, hu1, rfl, hb29⟩
    refine ⟨_, rfl, ?_⟩
    have h29 := hr28.ret hb29 181 (.tu [.v (.int .i64 u1.1), .v (.int .i64 u1.2)]) rfl _ (hr28.all.below hb29) (by simp) rfl
    refine seg cfg5_ok mixed PanicFree.body 1000 [] [] h29 (by first | trivial | exact HpRep.nil | assumption) (by kernel_rfl) fun s_ hs_ => ?_
    simp (maxSteps := 10000000) [SX.vc, SX.stop, SX.contS, SX.contB, SX.contW, SX.contR, SX.contD, SX.sxStep, SX.stepPure, SX.stepNew, SX.stepStore, SX.stepKeep, SX.guardIx, SX.evOp, SX.opd, SX.opds, SX.optOpd, SX.look, SX.putS, SX.gobs, SX.AllP, SX.leave, SX.lookC, SX.lookB, SX.lookT, SX.lookN, SX.findK, SX.evBuiltin, SX.ints, SX.foldI, SX.evBin, SX.evInt, SX.evStr, SX.evEq, SX.arith, SX.evLoad, SX.shapeUp, SX.evFieldAddr, SX.evField, SX.evIndexAddr, SX.evIndex, SX.evFill, SX.evBuild, SX.szs, SX.cellsV, SX.evNew, SX.evStore, SX.spliceL, SX.SV.cells, SX.evConv, SX.evSlice, SX.bnd, SX.evNil, SX.evUn, SX.evPick, SX.pickOpd, SX.popTo, SX.cnd, SX.env0, SX.TD.isAgg, SX.TD.isIface, SX.tails, SX.NotAgg, SX.evLookup, SX.evConvH, SX.evPtrEq, SX.isCells, SX.thaw, SX.frz, SX.fixB, SX.rootIx, SX.Froz, SX.frzStep, SX.fork, Go.Value.cells, Go.undef, cfg5]
    refine ⟨by (unfold SX.Ob; first | trivial | omega | ((try simp only [SX.inK]); (try simp [SX.den, SX.IsU8, SX.AllP, *]); (try omega))), ?_⟩
    intro a30 w30 hr30 _
    have hN30 := hN25.keep hr30.keeps (by simp [frameAt, mutB])
    refine post_call 16 [.v vn, .v (.int .i64 x)] hr30 (by first | exact wanted_none rfl | exact wanted_zero (hr30.env.same rfl rfl rfl rfl) rfl (by simp)) rfl (callable 16 Try.func16) (whose_ok w30 _ N x hN30 (by omega) n1 hxr.1 (n2 ▸ hxr.2)) ?_
    rintro e31 w31 ⟨u2, hu2, rfl, hb31⟩
    refine ⟨_, rfl, ?_⟩
    have h31 := hr30.ret hb31 187 (.tu [.v (.int .i64 u2.1), .v (.int .i64 u2.2)]) rfl _ (hr30.all.below hb31) (by simp) rfl
    obtain ⟨u3, hu3, hu23⟩ := (n4 x u2).1 hu2
    obtain rfl := hasS_uniq g1.1 hu1 hu3
    by_cases hso : u1.1 = o
    · rw [if_pos hso] at hu23
      subst hu23
      refine seg cfg5_ok mixed PanicFree.body 1000 [false] [(193, true), (197, false), (201, false)] h31 (by first | trivial | exact HpRep.nil | assumption) (by kernel_rfl) fun s_ hs_ => ?_
      simp (maxSteps := 10000000) [SX.vc, SX.stop, SX.contS, SX.contB, SX.contW, SX.contR, SX.contD, SX.sxStep, SX.stepPure, SX.stepNew, SX.stepStore, SX.stepKeep, SX.guardIx, SX.evOp, SX.opd, SX.opds, SX.optOpd, SX.look, SX.putS, SX.gobs, SX.AllP, SX.leave, SX.lookC, SX.lookB, SX.lookT, SX.lookN, SX.findK, SX.evBuiltin, SX.ints, SX.foldI, SX.evBin, SX.evInt, SX.evStr, SX.evEq, SX.arith, SX.evLoad, SX.shapeUp, SX.evFieldAddr, SX.evField, SX.evIndexAddr, SX.evIndex, SX.evFill, SX.evBuild, SX.szs, SX.cellsV, SX.evNew, SX.evStore, SX.spliceL, SX.SV.cells, SX.evConv, SX.evSlice, SX.bnd, SX.evNil, SX.evUn, SX.evPick, SX.pickOpd, SX.popTo, SX.cnd, SX.env0, SX.TD.isAgg, SX.TD.isIface, SX.tails, SX.NotAgg, SX.evLookup, SX.evConvH, SX.evPtrEq, SX.isCells, SX.thaw, SX.frz, SX.fixB, SX.rootIx, SX.Froz, SX.frzStep, SX.fork, Go.Value.cells, Go.undef, cfg5, hso]
      refine ⟨by (unfold SX.Ob; first | trivial | omega | ((try simp only [SX.inK]); (try simp [SX.den, SX.IsU8, SX.AllP, *]); (try omega))), ?_⟩
      intro a32 w32 hr32 _
      exact post_rnd (E2.length - (k + 1)) (by omega) ⟨k + 1, rfl, hlt, hr32.re (by simp [envTo, SX.look, den]) trivial rfl rfl⟩
    · rw [if_neg hso] at hu23
      subst hu23
      refine seg cfg5_ok mixed PanicFree.body 1000 [false] [(193, false), (197, false), (201, true)] h31 (by first | trivial | exact HpRep.nil | assumption) (by kernel_rfl) fun s_ hs_ => ?_
      simp (maxSteps := 10000000) [SX.vc, SX.stop, SX.contS, SX.contB, SX.contW, SX.contR, SX.contD, SX.sxStep, SX.stepPure, SX.stepNew, SX.stepStore, SX.stepKeep, SX.guardIx, SX.evOp, SX.opd, SX.opds, SX.optOpd, SX.look, SX.putS, SX.gobs, SX.AllP, SX.leave, SX.lookC, SX.lookB, SX.lookT, SX.lookN, SX.findK, SX.evBuiltin, SX.ints, SX.foldI, SX.evBin, SX.evInt, SX.evStr, SX.evEq, SX.arith, SX.evLoad, SX.shapeUp, SX.evFieldAddr, SX.evField, SX.evIndexAddr, SX.evIndex, SX.evFill, SX.evBuild, SX.szs, SX.cellsV, SX.evNew, SX.evStore, SX.spliceL, SX.SV.cells, SX.evConv, SX.evSlice, SX.bnd, SX.evNil, SX.evUn, SX.evPick, SX.pickOpd, SX.popTo, SX.cnd, SX.env0, SX.TD.isAgg, SX.TD.isIface, SX.tails, SX.NotAgg, SX.evLookup, SX.evConvH, SX.evPtrEq, SX.isCells, SX.thaw, SX.frz, SX.fixB, SX.rootIx, SX.Froz, SX.frzStep, SX.fork, Go.Value.cells, Go.undef, cfg5, hso]
      refine ⟨by (unfold SX.Ob; first | trivial | omega | ((try simp only [SX.inK]); (try simp [SX.den, SX.IsU8, SX.AllP, *]); (try omega))), ?_⟩
      intro a32 w32 hr32 _
      exact post_rnd (E2.length - (k + 1)) (by omega) ⟨k + 1, rfl, hlt, hr32.re (by simp [envTo, SX.look, den]) trivial rfl rfl⟩
  · obtain rfl : k = E2.length := by omega
    refine seg cfg5_ok mixed PanicFree.body 1000 [false] [] hr26 (by first | trivial | exact HpRep.nil | assumption) (by kernel_rfl) fun s_ hs_ => ?_
    simp (maxSteps := 10000000) [SX.vc, SX.stop, SX.contS, SX.contB, SX.contW, SX.contR, SX.contD, SX.sxStep, SX.stepPure, SX.stepNew, SX.stepStore, SX.stepKeep, SX.guardIx, SX.evOp, SX.opd, SX.opds, SX.optOpd, SX.look, SX.putS, SX.gobs, SX.AllP, SX.leave, SX.lookC, SX.lookB, SX.lookT, SX.lookN, SX.findK, SX.evBuiltin, SX.ints, SX.foldI, SX.evBin, SX.evInt, SX.evStr, SX.evEq, SX.arith, SX.evLoad, SX.shapeUp, SX.evFieldAddr, SX.evField, SX.evIndexAddr, SX.evIndex, SX.evFill, SX.evBuild, SX.szs, SX.cellsV, SX.evNew, SX.evStore, SX.spliceL, SX.SV.cells, SX.evConv, SX.evSlice, SX.bnd, SX.evNil, SX.evUn, SX.evPick, SX.pickOpd, SX.popTo, SX.cnd, SX.env0, SX.TD.isAgg, SX.TD.isIface, SX.tails, SX.NotAgg, SX.evLookup, SX.evConvH, SX.evPtrEq, SX.isCells, SX.thaw, SX.frz, SX.fixB, SX.rootIx, SX.Froz, SX.frzStep, SX.fork, Go.Value.cells, Go.undef, cfg5]
    refine ⟨by (unfold SX.Ob; first | trivial | omega | ((try simp only [SX.inK]); (try simp [SX.den, SX.IsU8, SX.AllP, *]); (try omega))), ?_⟩
    intro a27 w27 hr27' _
    have hr27 := hr25.unbase hr27'
    exact post_retn (end1 hr27 rfl rfl ⟨rfl, hr27.keeps.toBelow⟩).1
end Go.Proofs
