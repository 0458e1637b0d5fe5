/- Script: the example. -/
import Derived.Test.YtnikfpbhmfdkcaaDoorSM
import Derived.Test.YtnikfpbhmfdkcaaDoorSQ
namespace Go.Proofs
set_option linter.unusedVariables false
set_option linter.unusedSimpArgs false
set_option linter.unusedSectionVars false
open Go Go.SX Go.RowKit Go.Script

def st0 : Stp := ⟨1, 0, ⟨4, 1, 0, 7, 2, 9, 0⟩⟩
def txt0 : L8 := [97, 99, 116, 32, 119, 114, 105, 116, 101, 32, 49, 32, 55, 32, 50, 32, 57, 10]
def txt1 : L8 := [103, 105, 118, 101, 32, 48, 10, 103, 105, 118, 101, 32, 48, 48, 10]
theorem parse0 : parseL txt0 = ([st0], 0, 0) := by decide +kernel
theorem parse1 : parseL txt1 = ([], 2, 21) := by decide +kernel
theorem st0_by : ∀ x ∈ [st0], 0 ≤ x.a.by_ ∧ x.a.by_ < 256 := by decide
theorem print0 : printR [st0] = (txt0, 0) := by
  have d1 : digs 1 = [49] := by rw [digs_lt (by decide)]; rfl
  have d7 : digs 7 = [55] := by rw [digs_lt (by decide)]; rfl
  have d2 : digs 2 = [50] := by rw [digs_lt (by decide)]; rfl
  have d9 : digs 9 = [57] := by rw [digs_lt (by decide)]; rfl
  have h : printP [st0] = ⟨txt0, false⟩ := by
    simp [printP, stepP, st0, wordL, stepW, hasWho, hasAct, actP, actW, flds, numsP, numP, Ac.get, Ac.set, Ac.zero, d1, d7, d2, d9, txt0]
  unfold printR
  rw [h]
  rfl

theorem side39 : eqSide Tryd.prog 39 = true := by kernel_rfl
theorem ok39 : ∀ t, (t == 39 || t == 37) = true → eqSide Tryd.prog t = true := by
  intro t h
  have e : t = 39 ∨ t = 37 := by simpa using h
  rcases e with e | e <;> rw [e]
  · exact side39
  · exact side37
theorem stp_beq (x y : Stp) : (x.d == y.d && (x.who == y.who && (x.a.d == y.a.d && (x.a.host == y.a.host && (x.a.zone == y.a.zone && (x.a.lba == y.a.lba && (x.a.n == y.a.n && (x.a.by_ == y.a.by_ && x.a.keep == y.a.keep)))))))) = decide (x = y) := by
  rw [Bool.eq_iff_iff]
  simp only [Bool.and_eq_true, beq_iff_eq, decide_eq_true_eq]
  obtain ⟨d, who, ⟨a1, a2, a3, a4, a5, a6, a7⟩⟩ := x
  obtain ⟨d', who', ⟨b1, b2, b3, b4, b5, b6, b7⟩⟩ := y
  simp
theorem eqStp {tt : List (Nat × TI)} {ok : Nat → Bool} (x y : Stp) (h1 : lookT tt 37 = some ⟨.struct [(0, 3), (1, 3), (2, 3), (3, 3), (4, 3), (5, 5), (6, 3)], 7, 56, .agg #[.int .i64 0, .int .i64 0, .int .i64 0, .int .i64 0, .int .i64 0, .int .u8 0, .int .i64 0]⟩ := by rfl) (h0 : lookT tt 39 = some ⟨.struct [(0, 3), (1, 3), (2, 37)], 9, 72, .agg #[.int .i64 0, .int .i64 0, .int .i64 0, .int .i64 0, .int .i64 0, .int .i64 0, .int .i64 0, .int .u8 0, .int .i64 0]⟩ := by rfl) (h3 : lookT tt 3 = some ⟨.int .i64, 1, 8, .int .i64 0⟩ := by rfl) (h5 : lookT tt 5 = some ⟨.int .u8, 1, 1, .int .u8 0⟩ := by rfl) (hok : ok 37 = true := by rfl) (hok2 : ok 39 = true := by rfl) :
    evEqA tt ok 40 39 (.ag (stepC x x.a.by_)) (.ag (stepC y y.a.by_)) = some (decide (x = y)) := by
  rw [← stp_beq]
  simp [evEqA, evEqF, eqPlain, h0, h1, h3, h5, hok, hok2, shapeUp, TD.isAgg]

def SameL (w : World) (K : Nat) (n : Nat) (v1 v2 : Value) (m : Nat) (a : Act) (w' : World) : Prop :=
  ∃ k : Nat, m = n - k ∧ k ≤ n ∧ RepX (frame0 w) ⟨[(13, 0, .v (.int .i64 k)), (12, 0, .v (.int .i64 n)), (1, 0, .v v2), (0, 0, .v v1)], [], 0, 0, 26, [], [], []⟩ a w'
set_option maxRecDepth 100000 in
set_option maxHeartbeats 16000000 in
/-- Same, of the same ones. -/
theorem same_ok (w : World) (K : Nat) (v1 v2 : Value) (L : List Stp) (h1 : RdT (fun x => x < K) w v1 L) (h2 : RdT (fun x => K ≤ x) w v2 L) (hn : L.length ≤ 100000000) : Calls Tryd.prog 8 (denL [.v v1, .v v2]).toArray w fun e w' => e = .returned (den (.v (.bool true))) ∧ Below w.heap.size w w' := by
  obtain ⟨ad1, cp1, rfl⟩ := h1.slice
  obtain ⟨ad2, cp2, rfl⟩ := h2.slice
  obtain ⟨n, hln⟩ : ∃ n, L.length = n := ⟨_, rfl⟩
  rw [hln] at h1 h2 hn ⊢
  refine enter (F := frame0 w) Tryd.func8 rfl [.v (.slice ad1 n cp1), .v (.slice ad2 n cp2)] [] (by simp [Tryd.f8]) trivial (keeps0 w) fun a hr => ?_
  refine seg cfg8_ok mixed PanicFree.body 1000 [false] [] hr (by first | trivial | exact HpRep.nil | assumption) (by kernel_rfl) fun s_ hs_ => ?_
  simp (maxSteps := 10000000) [SX.vc, SX.stop, SX.contS, SX.contB, SX.contW, SX.contR, SX.contD, SX.sxStep, SX.stepPure, SX.stepNew, SX.stepStore, SX.stepKeep, SX.guardIx, SX.evOp, SX.opd, SX.opds, SX.optOpd, SX.look, SX.putS, SX.gobs, SX.AllP, SX.leave, SX.lookC, SX.lookB, SX.lookT, SX.lookN, SX.findK, SX.evBuiltin, SX.ints, SX.foldI, SX.evBin, SX.evInt, SX.evStr, SX.evEq, SX.arith, SX.evLoad, SX.shapeUp, SX.evFieldAddr, SX.evField, SX.evIndexAddr, SX.evIndex, SX.evFill, SX.evBuild, SX.szs, SX.cellsV, SX.evNew, SX.evStore, SX.spliceL, SX.SV.cells, SX.evConv, SX.evSlice, SX.bnd, SX.evNil, SX.evUn, SX.evPick, SX.pickOpd, SX.popTo, SX.cnd, SX.env0, SX.TD.isAgg, SX.TD.isIface, SX.tails, SX.NotAgg, SX.evLookup, SX.evConvH, SX.evPtrEq, SX.isCells, SX.thaw, SX.frz, SX.fixB, SX.rootIx, SX.Froz, SX.frzStep, SX.fork, Go.Value.cells, Go.undef, cfg8, Tryd.f8]
  refine ⟨by (unfold SX.Ob; first | trivial | omega | ((try simp only [SX.inK]); (try simp [SX.den, SX.IsU8, SX.AllP, *]); (try omega))), ?_⟩
  intro a1 w1 hr1 _
  refine post_loop (SameL w K n (.slice ad1 n cp1) (.slice ad2 n cp2)) _ ⟨0, rfl, by omega, hr1.re (by simp [envTo, SX.look]) trivial rfl rfl⟩ ?_
  clear hr hr1
  rintro m a2 w2 ⟨k, rfl, hk, hr2⟩
  by_cases hlt : k < n
  · obtain ⟨b1, o1, c1, u1, fz1, hP1, hv1, hrep1⟩ := (h1.below hr2.keeps.toBelow).opn (show k < L.length by omega)
    obtain ⟨b2, o2, c2, u2, fz2, hP2, hv2, hrep2⟩ := (h2.below hr2.keeps.toBelow).opn (show k < L.length by omega)
    rw [hln] at hv1 hrep1 hv2 hrep2
    cases hv1
    cases hv2
    obtain ⟨x, hx⟩ : ∃ x, nth zs L k = x := ⟨_, rfl⟩
    have h3 := ((hr2.top 0 (.sl 0 b1 o1 0 n cp1 9) rfl (by simp [den])).top 1 (.sl 1 b2 o2 0 n cp2 9) rfl (by simp [den])).see [(b1, false, .arr o1 n (fun j => stepRow (nth zs L j)) 9 u1 fz1), (b2, false, .arr o2 n (fun j => stepRow (nth zs L j)) 9 u2 fz2)] ⟨⟨hrep1, by simp, by simp; omega⟩, HpAll.one hrep2⟩
    have hlk : (k : Int) < (n : Int) := by omega
    refine seg cfg8_ok mixed PanicFree.body 1000 [true] [] h3 (by first | trivial | exact HpRep.nil | assumption) (by kernel_rfl) fun s_ hs_ => ?_
    simp (maxSteps := 10000000) [SX.vc, SX.stop, SX.contS, SX.contB, SX.contW, SX.contR, SX.contD, SX.sxStep, SX.stepPure, SX.stepNew, SX.stepStore, SX.stepKeep, SX.guardIx, SX.evOp, SX.opd, SX.opds, SX.optOpd, SX.look, SX.putS, SX.gobs, SX.AllP, SX.leave, SX.lookC, SX.lookB, SX.lookT, SX.lookN, SX.findK, SX.evBuiltin, SX.ints, SX.foldI, SX.evBin, SX.evInt, SX.evStr, SX.evEq, SX.arith, SX.evLoad, SX.shapeUp, SX.evFieldAddr, SX.evField, SX.evIndexAddr, SX.evIndex, SX.evFill, SX.evBuild, SX.szs, SX.cellsV, SX.evNew, SX.evStore, SX.spliceL, SX.SV.cells, SX.evConv, SX.evSlice, SX.bnd, SX.evNil, SX.evUn, SX.evPick, SX.pickOpd, SX.popTo, SX.cnd, SX.env0, SX.TD.isAgg, SX.TD.isIface, SX.tails, SX.NotAgg, SX.evLookup, SX.evConvH, SX.evPtrEq, SX.isCells, SX.thaw, SX.frz, SX.fixB, SX.rootIx, SX.Froz, SX.frzStep, SX.fork, Go.Value.cells, Go.undef, cfg8, stepRow, hx, hlk, hlt]
    refine ⟨by (unfold SX.Ob; first | trivial | omega | ((try simp only [SX.inK]); (try simp [SX.den, SX.IsU8, SX.AllP, *]); (try omega))), ?_⟩
    intro a4 w4 hr4 ht4
    refine post_eqQ (C := cfg8) cfg8_ok (ok := fun t => t == 39 || t == 37) ok39 hr4 ht4 rfl rfl rfl rfl rfl (by kernel_rfl) (b := decide (x = x)) (eqStp x x) (by first | exact wanted_none rfl | exact wanted_zero (hr4.env.same rfl rfl rfl rfl) rfl (by simp)) rfl (by simp) rfl fun a5 hr5 => ?_
    have ht5 := ht4
    have hd : eqR .neq (decide (x = x)) = false := by simp [eqR]
    rw [hd] at hr5
    refine seg cfg8_ok mixed PanicFree.body 1000 [false] [] hr5 (by first | trivial | exact HpRep.nil | assumption) (by kernel_rfl) fun s_ hs_ => ?_
    simp (maxSteps := 10000000) [SX.vc, SX.stop, SX.contS, SX.contB, SX.contW, SX.contR, SX.contD, SX.sxStep, SX.stepPure, SX.stepNew, SX.stepStore, SX.stepKeep, SX.guardIx, SX.evOp, SX.opd, SX.opds, SX.optOpd, SX.look, SX.putS, SX.gobs, SX.AllP, SX.leave, SX.lookC, SX.lookB, SX.lookT, SX.lookN, SX.findK, SX.evBuiltin, SX.ints, SX.foldI, SX.evBin, SX.evInt, SX.evStr, SX.evEq, SX.arith, SX.evLoad, SX.shapeUp, SX.evFieldAddr, SX.evField, SX.evIndexAddr, SX.evIndex, SX.evFill, SX.evBuild, SX.szs, SX.cellsV, SX.evNew, SX.evStore, SX.spliceL, SX.SV.cells, SX.evConv, SX.evSlice, SX.bnd, SX.evNil, SX.evUn, SX.evPick, SX.pickOpd, SX.popTo, SX.cnd, SX.env0, SX.TD.isAgg, SX.TD.isIface, SX.tails, SX.NotAgg, SX.evLookup, SX.evConvH, SX.evPtrEq, SX.isCells, SX.thaw, SX.frz, SX.fixB, SX.rootIx, SX.Froz, SX.frzStep, SX.fork, Go.Value.cells, Go.undef, cfg8]
    refine ⟨by (unfold SX.Ob; first | trivial | omega | ((try simp only [SX.inK]); (try simp [SX.den, SX.IsU8, SX.AllP, *]); (try omega))), ?_⟩
    intro a6 w6 hr6 _
    exact post_rnd (n - (k + 1)) (by omega) ⟨k + 1, rfl, hlt, hr6.re (by simp [envTo, SX.look, den]) trivial rfl rfl⟩
  · obtain rfl : k = n := by omega
    have hkk : ¬ (k : Int) < (k : Int) := by omega
    refine seg cfg8_ok mixed PanicFree.body 1000 [false] [] hr2 (by first | trivial | exact HpRep.nil | assumption) (by kernel_rfl) fun s_ hs_ => ?_
    simp (maxSteps := 10000000) [SX.vc, SX.stop, SX.contS, SX.contB, SX.contW, SX.contR, SX.contD, SX.sxStep, SX.stepPure, SX.stepNew, SX.stepStore, SX.stepKeep, SX.guardIx, SX.evOp, SX.opd, SX.opds, SX.optOpd, SX.look, SX.putS, SX.gobs, SX.AllP, SX.leave, SX.lookC, SX.lookB, SX.lookT, SX.lookN, SX.findK, SX.evBuiltin, SX.ints, SX.foldI, SX.evBin, SX.evInt, SX.evStr, SX.evEq, SX.arith, SX.evLoad, SX.shapeUp, SX.evFieldAddr, SX.evField, SX.evIndexAddr, SX.evIndex, SX.evFill, SX.evBuild, SX.szs, SX.cellsV, SX.evNew, SX.evStore, SX.spliceL, SX.SV.cells, SX.evConv, SX.evSlice, SX.bnd, SX.evNil, SX.evUn, SX.evPick, SX.pickOpd, SX.popTo, SX.cnd, SX.env0, SX.TD.isAgg, SX.TD.isIface, SX.tails, SX.NotAgg, SX.evLookup, SX.evConvH, SX.evPtrEq, SX.isCells, SX.thaw, SX.frz, SX.fixB, SX.rootIx, SX.Froz, SX.frzStep, SX.fork, Go.Value.cells, Go.undef, cfg8, hkk]
    refine ⟨by (unfold SX.Ob; first | trivial | omega | ((try simp only [SX.inK]); (try simp [SX.den, SX.IsU8, SX.AllP, *]); (try omega))), ?_⟩
    intro a4 w4 hr4 _
    exact post_retn (end1 hr4 rfl rfl ⟨rfl, hr4.keeps.toBelow⟩).1

set_option maxRecDepth 100000 in
set_option maxHeartbeats 16000000 in
/-- The example. -/
theorem live_ok (w : World) : Calls Tryd.prog 5 (denL []).toArray w fun e w' => e = .returned (den (.v (.bool true))) ∧ Below w.heap.size w w' := by
  refine enter (F := frame0 w) Tryd.func5 rfl [] [] (by simp [Tryd.f5]) trivial (keeps0 w) fun a hr => ?_
  refine seg cfg5_ok mixed PanicFree.body 1000 [] [] hr (by first | trivial | exact HpRep.nil | assumption) (by kernel_rfl) fun sB hsB => ?_
  simp (maxSteps := 10000000) [SX.vc, SX.stop, SX.contS, SX.contB, SX.contW, SX.contR, SX.contD, SX.sxStep, SX.stepPure, SX.stepNew, SX.stepStore, SX.stepKeep, SX.guardIx, SX.evOp, SX.opd, SX.opds, SX.optOpd, SX.look, SX.putS, SX.gobs, SX.AllP, SX.leave, SX.lookC, SX.lookB, SX.lookT, SX.lookN, SX.findK, SX.evBuiltin, SX.ints, SX.foldI, SX.evBin, SX.evInt, SX.evStr, SX.evEq, SX.arith, SX.evLoad, SX.shapeUp, SX.evFieldAddr, SX.evField, SX.evIndexAddr, SX.evIndex, SX.evFill, SX.evBuild, SX.szs, SX.cellsV, SX.evNew, SX.evStore, SX.spliceL, SX.SV.cells, SX.evConv, SX.evSlice, SX.bnd, SX.evNil, SX.evUn, SX.evPick, SX.pickOpd, SX.popTo, SX.cnd, SX.env0, SX.TD.isAgg, SX.TD.isIface, SX.tails, SX.NotAgg, SX.evLookup, SX.evConvH, SX.evPtrEq, SX.isCells, SX.thaw, SX.frz, SX.fixB, SX.rootIx, SX.Froz, SX.frzStep, SX.fork, Go.Value.cells, Go.undef, cfg5, Tryd.f5]
  refine ⟨by (unfold SX.Ob; first | trivial | omega | ((try simp only [SX.inK]); (try simp [SX.den, SX.IsU8, SX.AllP, *]); (try omega))), ?_⟩
  intro a1 w1 hr1 _
  have hp0 := parse_ok w1 txt0
  rw [parse0] at hp0
  refine post_call 7 [.v (.string (Script.B txt0))] hr1 (by first | exact wanted_none rfl | exact wanted_zero (hr1.env.same rfl rfl rfl rfl) rfl (by simp) | exact wanted_zero (hr1.env.same rfl rfl rfl rfl) rfl (by simp [*])) rfl (callable 7 Tryd.func7) (hp0) ?_
  rintro e2 w2 ⟨⟨v2, rfl, hL2⟩, hb2⟩
  refine ⟨_, rfl, ?_⟩
  have h2 := hr1.ret hb2 13 (.tu [.v v2, .v (.int .i64 0), .v (.int .i64 0)]) rfl _ (hr1.all.below hb2) (by simp) rfl
  refine seg cfg5_ok mixed PanicFree.body 1000 [] [] h2.rebase (by first | trivial | exact HpRep.nil | assumption) (by kernel_rfl) fun sC hsC => ?_
  simp (maxSteps := 10000000) [SX.vc, SX.stop, SX.contS, SX.contB, SX.contW, SX.contR, SX.contD, SX.sxStep, SX.stepPure, SX.stepNew, SX.stepStore, SX.stepKeep, SX.guardIx, SX.evOp, SX.opd, SX.opds, SX.optOpd, SX.look, SX.putS, SX.gobs, SX.AllP, SX.leave, SX.lookC, SX.lookB, SX.lookT, SX.lookN, SX.findK, SX.evBuiltin, SX.ints, SX.foldI, SX.evBin, SX.evInt, SX.evStr, SX.evEq, SX.arith, SX.evLoad, SX.shapeUp, SX.evFieldAddr, SX.evField, SX.evIndexAddr, SX.evIndex, SX.evFill, SX.evBuild, SX.szs, SX.cellsV, SX.evNew, SX.evStore, SX.spliceL, SX.SV.cells, SX.evConv, SX.evSlice, SX.bnd, SX.evNil, SX.evUn, SX.evPick, SX.pickOpd, SX.popTo, SX.cnd, SX.env0, SX.TD.isAgg, SX.TD.isIface, SX.tails, SX.NotAgg, SX.evLookup, SX.evConvH, SX.evPtrEq, SX.isCells, SX.thaw, SX.frz, SX.fixB, SX.rootIx, SX.Froz, SX.frzStep, SX.fork, Go.Value.cells, Go.undef, cfg5]
  refine ⟨by (unfold SX.Ob; first | trivial | omega | ((try simp only [SX.inK]); (try simp [SX.den, SX.IsU8, SX.AllP, *]); (try omega))), ?_⟩
  intro a3 w3 hr3' _
  have hr3 := h2.unbase hr3'
  have hsB : sB < w1.heap.size := SO.rep_lt hr1.all.1.1
  have hL2' := hL2.mono (P' := fun x => w1.heap.size ≤ x ∧ x < w2.heap.size) fun x h1 h2 => ⟨h2, h1⟩
  have hL3 := hL2'.keep hr3'.keeps (by simp [frameAt, mutB]; omega)
  have hpr := print_ok w3 (den (.sl 1 sC 0 0 1 1 9)) [st0] ((RdS.lit (x := st0) hr3.all.2.1.1 rfl).mono fun y hy _ => hy) (by decide) st0_by
  rw [print0] at hpr
  refine post_call 6 [.sl 1 sC 0 0 1 1 9] hr3 (by first | exact wanted_none rfl | exact wanted_zero (hr3.env.same rfl rfl rfl rfl) rfl (by simp) | exact wanted_zero (hr3.env.same rfl rfl rfl rfl) rfl (by simp [*])) rfl (callable 6 Tryd.func6) (hpr) ?_
  rintro e4 w4 ⟨rfl, hb4⟩
  refine ⟨_, rfl, ?_⟩
  have h4 := hr3.ret hb4 20 (.tu [.v (.string (Script.B txt0)), .v (.int .i64 0)]) rfl _ (hr3.all.below hb4) (by simp) rfl
  have hL4 := hL3.below hb4
  refine seg cfg5_ok mixed PanicFree.body 1000 [] [] h4.rebase (by first | trivial | exact HpRep.nil | assumption) (by kernel_rfl) fun s_ hs_ => ?_
  simp (maxSteps := 10000000) [SX.vc, SX.stop, SX.contS, SX.contB, SX.contW, SX.contR, SX.contD, SX.sxStep, SX.stepPure, SX.stepNew, SX.stepStore, SX.stepKeep, SX.guardIx, SX.evOp, SX.opd, SX.opds, SX.optOpd, SX.look, SX.putS, SX.gobs, SX.AllP, SX.leave, SX.lookC, SX.lookB, SX.lookT, SX.lookN, SX.findK, SX.evBuiltin, SX.ints, SX.foldI, SX.evBin, SX.evInt, SX.evStr, SX.evEq, SX.arith, SX.evLoad, SX.shapeUp, SX.evFieldAddr, SX.evField, SX.evIndexAddr, SX.evIndex, SX.evFill, SX.evBuild, SX.szs, SX.cellsV, SX.evNew, SX.evStore, SX.spliceL, SX.SV.cells, SX.evConv, SX.evSlice, SX.bnd, SX.evNil, SX.evUn, SX.evPick, SX.pickOpd, SX.popTo, SX.cnd, SX.env0, SX.TD.isAgg, SX.TD.isIface, SX.tails, SX.NotAgg, SX.evLookup, SX.evConvH, SX.evPtrEq, SX.isCells, SX.thaw, SX.frz, SX.fixB, SX.rootIx, SX.Froz, SX.frzStep, SX.fork, Go.Value.cells, Go.undef, cfg5]
  refine ⟨by (unfold SX.Ob; first | trivial | omega | ((try simp only [SX.inK]); (try simp [SX.den, SX.IsU8, SX.AllP, *]); (try omega))), ?_⟩
  intro a5 w5 hr5' _
  have hr5 := h4.unbase hr5'
  have hL5 := hL4.keep hr5'.keeps (by simp [frameAt, mutB]; omega)
  have hp1 := parse_ok w5 txt1
  rw [parse1] at hp1
  refine post_call 7 [.v (.string (Script.B txt1))] hr5 (by first | exact wanted_none rfl | exact wanted_zero (hr5.env.same rfl rfl rfl rfl) rfl (by simp) | exact wanted_zero (hr5.env.same rfl rfl rfl rfl) rfl (by simp [*])) rfl (callable 7 Tryd.func7) (hp1) ?_
  rintro e6 w6 ⟨⟨v6, rfl, hL6⟩, hb6⟩
  refine ⟨_, rfl, ?_⟩
  have h6 := hr5.ret hb6 24 (.tu [.v v6, .v (.int .i64 2), .v (.int .i64 21)]) rfl _ (hr5.all.below hb6) (by simp) rfl
  have hL6' := hL5.below hb6
  obtain ⟨b2, o2, c2, u2, fz2, hP2, hv2, hrep2⟩ := hL6'.opn (show 0 < [st0].length by decide)
  have hA6 := h6.all
  have hP2' : w1.heap.size ≤ b2 := hP2.1
  subst hv2
  have h7 := (h6.top 2 (.sl 1 b2 o2 0 1 c2 9) rfl (by simp [den])).see [(sB, false, .cells (stepRow st0) 39), (b2, false, .arr o2 1 (fun j => stepRow (nth zs [st0] j)) 9 u2 fz2)] ⟨⟨hA6.1.1, by simp, by simp; omega⟩, HpAll.one hrep2⟩
  have hx0 : nth zs [st0] 0 = st0 := rfl
  have hst : stepRow st0 = [.v (.int .i64 1), .v (.int .i64 0), .v (.int .i64 4), .v (.int .i64 1), .v (.int .i64 0), .v (.int .i64 7), .v (.int .i64 2), .v (.int .u8 9), .v (.int .i64 0)] := rfl
  refine seg cfg5_ok mixed PanicFree.body 1000 [] [(30, true), (34, true), (39, true), (46, true), (50, true), (54, true), (58, true)] h7 (by first | trivial | exact HpRep.nil | assumption) (by kernel_rfl) fun s_ hs_ => ?_
  simp (maxSteps := 10000000) [SX.vc, SX.stop, SX.contS, SX.contB, SX.contW, SX.contR, SX.contD, SX.sxStep, SX.stepPure, SX.stepNew, SX.stepStore, SX.stepKeep, SX.guardIx, SX.evOp, SX.opd, SX.opds, SX.optOpd, SX.look, SX.putS, SX.gobs, SX.AllP, SX.leave, SX.lookC, SX.lookB, SX.lookT, SX.lookN, SX.findK, SX.evBuiltin, SX.ints, SX.foldI, SX.evBin, SX.evInt, SX.evStr, SX.evEq, SX.arith, SX.evLoad, SX.shapeUp, SX.evFieldAddr, SX.evField, SX.evIndexAddr, SX.evIndex, SX.evFill, SX.evBuild, SX.szs, SX.cellsV, SX.evNew, SX.evStore, SX.spliceL, SX.SV.cells, SX.evConv, SX.evSlice, SX.bnd, SX.evNil, SX.evUn, SX.evPick, SX.pickOpd, SX.popTo, SX.cnd, SX.env0, SX.TD.isAgg, SX.TD.isIface, SX.tails, SX.NotAgg, SX.evLookup, SX.evConvH, SX.evPtrEq, SX.isCells, SX.thaw, SX.frz, SX.fixB, SX.rootIx, SX.Froz, SX.frzStep, SX.fork, Go.Value.cells, Go.undef, cfg5, hx0, hst]
  refine ⟨by (unfold SX.Ob; first | trivial | omega | ((try simp only [SX.inK]); (try simp [SX.den, SX.IsU8, SX.AllP, *]); (try omega))), ?_⟩
  intro a8 w8 hr8 ht8
  refine post_eqQ (C := cfg5) cfg5_ok (ok := fun t => t == 39 || t == 37) ok39 hr8 ht8 rfl rfl rfl rfl rfl (by kernel_rfl) (b := decide (st0 = st0)) (eqStp st0 st0) (by first | exact wanted_none rfl | exact wanted_zero (hr8.env.same rfl rfl rfl rfl) rfl (by simp)) rfl (by simp) rfl fun a9 hr9 => ?_
  have ht9 := ht8
  have hd : eqR .eql (decide (st0 = st0)) = true := by simp [eqR]
  rw [hd] at hr9
  refine seg cfg5_ok mixed PanicFree.body 1000 [] [(30, true), (34, true), (39, true), (46, true), (50, true), (54, true), (58, true)] hr9 (by first | trivial | exact HpRep.nil | assumption) (by kernel_rfl) fun s_ hs_ => ?_
  simp (maxSteps := 10000000) [SX.vc, SX.stop, SX.contS, SX.contB, SX.contW, SX.contR, SX.contD, SX.sxStep, SX.stepPure, SX.stepNew, SX.stepStore, SX.stepKeep, SX.guardIx, SX.evOp, SX.opd, SX.opds, SX.optOpd, SX.look, SX.putS, SX.gobs, SX.AllP, SX.leave, SX.lookC, SX.lookB, SX.lookT, SX.lookN, SX.findK, SX.evBuiltin, SX.ints, SX.foldI, SX.evBin, SX.evInt, SX.evStr, SX.evEq, SX.arith, SX.evLoad, SX.shapeUp, SX.evFieldAddr, SX.evField, SX.evIndexAddr, SX.evIndex, SX.evFill, SX.evBuild, SX.szs, SX.cellsV, SX.evNew, SX.evStore, SX.spliceL, SX.SV.cells, SX.evConv, SX.evSlice, SX.bnd, SX.evNil, SX.evUn, SX.evPick, SX.pickOpd, SX.popTo, SX.cnd, SX.env0, SX.TD.isAgg, SX.TD.isIface, SX.tails, SX.NotAgg, SX.evLookup, SX.evConvH, SX.evPtrEq, SX.isCells, SX.thaw, SX.frz, SX.fixB, SX.rootIx, SX.Froz, SX.frzStep, SX.fork, Go.Value.cells, Go.undef, cfg5, BtoList, litToList, txt0]
  refine ⟨by (unfold SX.Ob; first | trivial | omega | ((try simp only [SX.inK]); (try simp [SX.den, SX.IsU8, SX.AllP, *]); (try omega))), ?_⟩
  intro a10 w10 hr10 _
  exact post_retn (end1 hr10 rfl rfl ⟨rfl, hr10.keeps.toBelow⟩).1
end Go.Proofs
