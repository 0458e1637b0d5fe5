/- Spans: the document's Join; the program's Join. -/
import Derived.Test.YtpgknabmpghcoaaPL
namespace Go.Proofs
set_option linter.unusedVariables false
set_option linter.unusedSimpArgs false
open Go Go.SX Go.RowKit

/-- What Join tells. -/
def JoinR (w : World) (L : List Spn) (e : Ending) (w' : World) : Prop :=
  ((ChkP L ∧ ∃ v', e = .returned (den (.tu [.v v', .v (.int .i64 0)])) ∧ OwP (fun x => w.heap.size ≤ x) w' v' (joinS L)) ∨ (¬ ChkP L ∧ e = .returned (den (.tu [.v (.slice none 0 0), .v (.int .i64 1)])))) ∧ Below w.heap.size w w'

set_option maxRecDepth 100000 in
set_option maxHeartbeats 8000000 in
/-- Join. -/
theorem Join_ok {P : Nat → Prop} (w : World) (v : Value) (L : List Spn) (hL : RdP P w v L) (hn : L.length ≤ 1000000) : Calls Try.prog 12 (denL [.v v]).toArray w (JoinR w L) := by
  obtain ⟨ad, cp, rfl⟩ := hL.slice
  refine enter (F := frame0 w) Try.func12 rfl [.v (.slice ad L.length cp)] [] (by simp [Try.f12]) trivial (keeps0 w) fun a hr => ?_
  refine seg cfg12_ok mixed PanicFree.body 1000 [] [] hr (by first | trivial | exact HpRep.nil | assumption) (by kernel_rfl) fun s_ hs_ => ?_
  simp (maxSteps := 10000000) [SX.vc, SX.stop, SX.contS, SX.contB, SX.contW, SX.contR, SX.contD, SX.sxStep, SX.stepPure, SX.stepNew, SX.stepStore, SX.stepKeep, SX.guardIx, SX.evOp, SX.opd, SX.opds, SX.optOpd, SX.look, SX.putS, SX.gobs, SX.AllP, SX.leave, SX.lookC, SX.lookB, SX.lookT, SX.lookN, SX.findK, SX.evBuiltin, SX.ints, SX.foldI, SX.evBin, SX.evInt, SX.evStr, SX.evEq, SX.arith, SX.evLoad, SX.shapeUp, SX.evFieldAddr, SX.evField, SX.evIndexAddr, SX.evIndex, SX.evFill, SX.evBuild, SX.szs, SX.cellsV, SX.evNew, SX.evStore, SX.spliceL, SX.SV.cells, SX.evConv, SX.evSlice, SX.bnd, SX.evNil, SX.evUn, SX.evPick, SX.pickOpd, SX.popTo, SX.cnd, SX.env0, SX.TD.isAgg, SX.TD.isIface, SX.tails, SX.NotAgg, SX.evLookup, SX.evConvH, SX.evPtrEq, SX.isCells, SX.thaw, SX.frz, SX.fixB, SX.rootIx, SX.Froz, SX.frzStep, SX.fork, Go.Value.cells, Go.undef, cfg12, Try.f12]
  refine ⟨by (unfold SX.Ob; first | trivial | omega | ((try simp only [SX.inK]); (try simp [SX.den, SX.IsU8, SX.AllP, *]); (try omega))), ?_⟩
  intro a1 w1 hr1 _
  refine post_call 30 [.v (.slice ad L.length cp)] hr1 (by first | exact wanted_none rfl | exact wanted_zero (hr1.env.same rfl rfl rfl rfl) rfl (by simp)) rfl (callable 30 Try.func30) (check_ok w1 _ L (hL.below hr1.keeps.toBelow) (by omega)) ?_
  rintro e2 w2 ⟨rfl, hb2⟩
  refine ⟨_, rfl, ?_⟩
  have h2 := hr1.ret hb2 6 (.v (.int .i64 (chkP L))) rfl _ (hr1.all.below hb2) (by simp) rfl
  by_cases hC : ChkP L
  rotate_left
  · have hc : chkP L = 1 := if_neg hC
    refine seg cfg12_ok mixed PanicFree.body 1000 [true] [] h2 (by first | trivial | exact HpRep.nil | assumption) (by kernel_rfl) fun s_ hs_ => ?_
    simp (maxSteps := 10000000) [SX.vc, SX.stop, SX.contS, SX.contB, SX.contW, SX.contR, SX.contD, SX.sxStep, SX.stepPure, SX.stepNew, SX.stepStore, SX.stepKeep, SX.guardIx, SX.evOp, SX.opd, SX.opds, SX.optOpd, SX.look, SX.putS, SX.gobs, SX.AllP, SX.leave, SX.lookC, SX.lookB, SX.lookT, SX.lookN, SX.findK, SX.evBuiltin, SX.ints, SX.foldI, SX.evBin, SX.evInt, SX.evStr, SX.evEq, SX.arith, SX.evLoad, SX.shapeUp, SX.evFieldAddr, SX.evField, SX.evIndexAddr, SX.evIndex, SX.evFill, SX.evBuild, SX.szs, SX.cellsV, SX.evNew, SX.evStore, SX.spliceL, SX.SV.cells, SX.evConv, SX.evSlice, SX.bnd, SX.evNil, SX.evUn, SX.evPick, SX.pickOpd, SX.popTo, SX.cnd, SX.env0, SX.TD.isAgg, SX.TD.isIface, SX.tails, SX.NotAgg, SX.evLookup, SX.evConvH, SX.evPtrEq, SX.isCells, SX.thaw, SX.frz, SX.fixB, SX.rootIx, SX.Froz, SX.frzStep, SX.fork, Go.Value.cells, Go.undef, cfg12, hc]
    refine ⟨by (unfold SX.Ob; first | trivial | omega | ((try simp only [SX.inK]); (try simp [SX.den, SX.IsU8, SX.AllP, *]); (try omega))), ?_⟩
    intro a3 w3 hr3 _
    exact post_retn (end2 hr3 rfl rfl rfl ⟨.inr ⟨hC, rfl⟩, hr3.keeps.toBelow⟩).1
  have hc : chkP L = 0 := if_pos hC
  refine seg cfg12_ok mixed PanicFree.body 1000 [false] [] h2 (by first | trivial | exact HpRep.nil | assumption) (by kernel_rfl) fun s_ hs_ => ?_
  simp (maxSteps := 10000000) [SX.vc, SX.stop, SX.contS, SX.contB, SX.contW, SX.contR, SX.contD, SX.sxStep, SX.stepPure, SX.stepNew, SX.stepStore, SX.stepKeep, SX.guardIx, SX.evOp, SX.opd, SX.opds, SX.optOpd, SX.look, SX.putS, SX.gobs, SX.AllP, SX.leave, SX.lookC, SX.lookB, SX.lookT, SX.lookN, SX.findK, SX.evBuiltin, SX.ints, SX.foldI, SX.evBin, SX.evInt, SX.evStr, SX.evEq, SX.arith, SX.evLoad, SX.shapeUp, SX.evFieldAddr, SX.evField, SX.evIndexAddr, SX.evIndex, SX.evFill, SX.evBuild, SX.szs, SX.cellsV, SX.evNew, SX.evStore, SX.spliceL, SX.SV.cells, SX.evConv, SX.evSlice, SX.bnd, SX.evNil, SX.evUn, SX.evPick, SX.pickOpd, SX.popTo, SX.cnd, SX.env0, SX.TD.isAgg, SX.TD.isIface, SX.tails, SX.NotAgg, SX.evLookup, SX.evConvH, SX.evPtrEq, SX.isCells, SX.thaw, SX.frz, SX.fixB, SX.rootIx, SX.Froz, SX.frzStep, SX.fork, Go.Value.cells, Go.undef, cfg12, hc]
  refine ⟨by (unfold SX.Ob; first | trivial | omega | ((try simp only [SX.inK]); (try simp [SX.den, SX.IsU8, SX.AllP, *]); (try omega))), ?_⟩
  intro a3 w3 hr3 _
  have z3 : w.heap.size ≤ w3.heap.size := hr3.keeps.size
  refine post_call 28 [.v (.slice ad L.length cp)] hr3 (by first | exact wanted_none rfl | exact wanted_zero (hr3.env.same rfl rfl rfl rfl) rfl (by simp)) rfl (callable 28 Try.func28) (join_ok w3 _ L (hL.below hr3.keeps.toBelow) hn) ?_
  rintro e4 w4 ⟨v', rfl, hO, hb4⟩
  refine ⟨_, rfl, ?_⟩
  have h4 := hr3.ret hb4 11 (.v v') rfl _ (hr3.all.below hb4) (by simp) rfl
  refine seg cfg12_ok mixed PanicFree.body 1000 [] [] h4.rebase (by first | trivial | exact HpRep.nil | assumption) (by kernel_rfl) fun s_ hs_ => ?_
  simp (maxSteps := 10000000) [SX.vc, SX.stop, SX.contS, SX.contB, SX.contW, SX.contR, SX.contD, SX.sxStep, SX.stepPure, SX.stepNew, SX.stepStore, SX.stepKeep, SX.guardIx, SX.evOp, SX.opd, SX.opds, SX.optOpd, SX.look, SX.putS, SX.gobs, SX.AllP, SX.leave, SX.lookC, SX.lookB, SX.lookT, SX.lookN, SX.findK, SX.evBuiltin, SX.ints, SX.foldI, SX.evBin, SX.evInt, SX.evStr, SX.evEq, SX.arith, SX.evLoad, SX.shapeUp, SX.evFieldAddr, SX.evField, SX.evIndexAddr, SX.evIndex, SX.evFill, SX.evBuild, SX.szs, SX.cellsV, SX.evNew, SX.evStore, SX.spliceL, SX.SV.cells, SX.evConv, SX.evSlice, SX.bnd, SX.evNil, SX.evUn, SX.evPick, SX.pickOpd, SX.popTo, SX.cnd, SX.env0, SX.TD.isAgg, SX.TD.isIface, SX.tails, SX.NotAgg, SX.evLookup, SX.evConvH, SX.evPtrEq, SX.isCells, SX.thaw, SX.frz, SX.fixB, SX.rootIx, SX.Froz, SX.frzStep, SX.fork, Go.Value.cells, Go.undef, cfg12]
  refine ⟨by (unfold SX.Ob; first | trivial | omega | ((try simp only [SX.inK]); (try simp [SX.den, SX.IsU8, SX.AllP, *]); (try omega))), ?_⟩
  intro a5 w5 hr5' _
  have hr5 := h4.unbase hr5'
  exact post_retn (end2 hr5 rfl rfl rfl ⟨.inl ⟨hC, v', rfl, ((hO.mono (P' := fun x => w.heap.size ≤ x) fun x _ h => by omega).keep hr5'.keeps (by simp [frameAt, mutB]))⟩, hr5.keeps.toBelow⟩).1

def JLoop20 (w : World) (v : Value) (L : List Spn) (m : Nat) (a : Act) (w' : World) : Prop :=
  ∃ (k : Nat) (out : List Spn) (v' : Value), m = L.length - k ∧ k ≤ L.length ∧ joinGoS out (L.drop k) = joinS L ∧ out.length ≤ k ∧ OwP (fun x => w.heap.size ≤ x) w' v' out ∧
    RepX (frame0 w) ⟨[(13, 0, .v (.int .i64 k)), (12, 0, .v (.int .i64 L.length)), (11, 0, .v v), (4, 0, .v v')], [], 0, 0, 54, [], [], []⟩ a w'

set_option maxRecDepth 100000 in
set_option maxHeartbeats 8000000 in
/-- The document's Join. -/
theorem rjoin_ok {P : Nat → Prop} (w : World) (v : Value) (L : List Spn) (hL : RdP P w v L) (hn : L.length ≤ 1000000) : Calls Try.prog 20 (denL [.v v]).toArray w (JoinR w L) := by
  obtain ⟨ad, cp, rfl⟩ := hL.slice
  refine enter (F := frame0 w) Try.func20 rfl [.v (.slice ad L.length cp)] [] (by simp [Try.f20]) trivial (keeps0 w) fun a hr => ?_
  refine seg cfg20_ok mixed PanicFree.body 1000 [] [] hr (by first | trivial | exact HpRep.nil | assumption) (by kernel_rfl) fun s_ hs_ => ?_
  simp (maxSteps := 10000000) [SX.vc, SX.stop, SX.contS, SX.contB, SX.contW, SX.contR, SX.contD, SX.sxStep, SX.stepPure, SX.stepNew, SX.stepStore, SX.stepKeep, SX.guardIx, SX.evOp, SX.opd, SX.opds, SX.optOpd, SX.look, SX.putS, SX.gobs, SX.AllP, SX.leave, SX.lookC, SX.lookB, SX.lookT, SX.lookN, SX.findK, SX.evBuiltin, SX.ints, SX.foldI, SX.evBin, SX.evInt, SX.evStr, SX.evEq, SX.arith, SX.evLoad, SX.shapeUp, SX.evFieldAddr, SX.evField, SX.evIndexAddr, SX.evIndex, SX.evFill, SX.evBuild, SX.szs, SX.cellsV, SX.evNew, SX.evStore, SX.spliceL, SX.SV.cells, SX.evConv, SX.evSlice, SX.bnd, SX.evNil, SX.evUn, SX.evPick, SX.pickOpd, SX.popTo, SX.cnd, SX.env0, SX.TD.isAgg, SX.TD.isIface, SX.tails, SX.NotAgg, SX.evLookup, SX.evConvH, SX.evPtrEq, SX.isCells, SX.thaw, SX.frz, SX.fixB, SX.rootIx, SX.Froz, SX.frzStep, SX.fork, Go.Value.cells, Go.undef, cfg20, Try.f20]
  refine ⟨by (unfold SX.Ob; first | trivial | omega | ((try simp only [SX.inK]); (try simp [SX.den, SX.IsU8, SX.AllP, *]); (try omega))), ?_⟩
  intro a1 w1 hr1 _
  refine post_call 11 [.v (.slice ad L.length cp)] hr1 (by first | exact wanted_none rfl | exact wanted_zero (hr1.env.same rfl rfl rfl rfl) rfl (by simp)) rfl (callable 11 Try.func11) (rcheck_ok w1 _ L (hL.below hr1.keeps.toBelow) (by omega)) ?_
  rintro e2 w2 ⟨rfl, hb2⟩
  refine ⟨_, rfl, ?_⟩
  have h2 := hr1.ret hb2 9 (.v (.int .i64 (chkP L))) rfl _ (hr1.all.below hb2) (by simp) rfl
  by_cases hC : ChkP L
  rotate_left
  · have hc : chkP L = 1 := if_neg hC
    refine seg cfg20_ok mixed PanicFree.body 1000 [true] [] h2 (by first | trivial | exact HpRep.nil | assumption) (by kernel_rfl) fun s_ hs_ => ?_
    simp (maxSteps := 10000000) [SX.vc, SX.stop, SX.contS, SX.contB, SX.contW, SX.contR, SX.contD, SX.sxStep, SX.stepPure, SX.stepNew, SX.stepStore, SX.stepKeep, SX.guardIx, SX.evOp, SX.opd, SX.opds, SX.optOpd, SX.look, SX.putS, SX.gobs, SX.AllP, SX.leave, SX.lookC, SX.lookB, SX.lookT, SX.lookN, SX.findK, SX.evBuiltin, SX.ints, SX.foldI, SX.evBin, SX.evInt, SX.evStr, SX.evEq, SX.arith, SX.evLoad, SX.shapeUp, SX.evFieldAddr, SX.evField, SX.evIndexAddr, SX.evIndex, SX.evFill, SX.evBuild, SX.szs, SX.cellsV, SX.evNew, SX.evStore, SX.spliceL, SX.SV.cells, SX.evConv, SX.evSlice, SX.bnd, SX.evNil, SX.evUn, SX.evPick, SX.pickOpd, SX.popTo, SX.cnd, SX.env0, SX.TD.isAgg, SX.TD.isIface, SX.tails, SX.NotAgg, SX.evLookup, SX.evConvH, SX.evPtrEq, SX.isCells, SX.thaw, SX.frz, SX.fixB, SX.rootIx, SX.Froz, SX.frzStep, SX.fork, Go.Value.cells, Go.undef, cfg20, hc]
    refine ⟨by (unfold SX.Ob; first | trivial | omega | ((try simp only [SX.inK]); (try simp [SX.den, SX.IsU8, SX.AllP, *]); (try omega))), ?_⟩
    intro a3 w3 hr3 _
    exact post_retn (end2 hr3 rfl rfl rfl ⟨.inr ⟨hC, rfl⟩, hr3.keeps.toBelow⟩).1
  have hc : chkP L = 0 := if_pos hC
  refine seg cfg20_ok mixed PanicFree.body 1000 [false] [] h2 (by first | trivial | exact HpRep.nil | assumption) (by kernel_rfl) fun s_ hs_ => ?_
  simp (maxSteps := 10000000) [SX.vc, SX.stop, SX.contS, SX.contB, SX.contW, SX.contR, SX.contD, SX.sxStep, SX.stepPure, SX.stepNew, SX.stepStore, SX.stepKeep, SX.guardIx, SX.evOp, SX.opd, SX.opds, SX.optOpd, SX.look, SX.putS, SX.gobs, SX.AllP, SX.leave, SX.lookC, SX.lookB, SX.lookT, SX.lookN, SX.findK, SX.evBuiltin, SX.ints, SX.foldI, SX.evBin, SX.evInt, SX.evStr, SX.evEq, SX.arith, SX.evLoad, SX.shapeUp, SX.evFieldAddr, SX.evField, SX.evIndexAddr, SX.evIndex, SX.evFill, SX.evBuild, SX.szs, SX.cellsV, SX.evNew, SX.evStore, SX.spliceL, SX.SV.cells, SX.evConv, SX.evSlice, SX.bnd, SX.evNil, SX.evUn, SX.evPick, SX.pickOpd, SX.popTo, SX.cnd, SX.env0, SX.TD.isAgg, SX.TD.isIface, SX.tails, SX.NotAgg, SX.evLookup, SX.evConvH, SX.evPtrEq, SX.isCells, SX.thaw, SX.frz, SX.fixB, SX.rootIx, SX.Froz, SX.frzStep, SX.fork, Go.Value.cells, Go.undef, cfg20, hc]
  refine ⟨by (unfold SX.Ob; first | trivial | omega | ((try simp only [SX.inK]); (try simp [SX.den, SX.IsU8, SX.AllP, *]); (try omega))), ?_⟩
  intro a3 w3 hr3 _
  refine post_loop (JLoop20 w (.slice ad L.length cp) L) L.length ⟨0, [], .slice none 0 0, rfl, by omega, rfl, by simp, OwS.nil, hr3.re (by simp [envTo, SX.look]) trivial rfl rfl⟩ ?_
  rintro m a4 w4 ⟨k, out, v', rfl, hk, hj, hol, hO, hr4⟩
  have z4 : w.heap.size ≤ w4.heap.size := hr4.keeps.size
  by_cases hlt : k < L.length
  · obtain ⟨b, o0, cap, u, fz, hP, hv, hrep⟩ := hL.opn hlt
    cases hv
    have hbw := SO.rep_lt hrep
    have hrep2 := SO.rep_same hrep (hr4.keeps.toBelow.block _ hbw)
    obtain ⟨x, hx⟩ : ∃ x, nth spn0 L k = x := ⟨_, rfl⟩
    rw [drop_nth (d := spn0) hlt, hx, joinGoS] at hj
    rcases hq : out.length with _ | q
    · obtain rfl : out = [] := List.length_eq_zero_iff.1 hq
      obtain ⟨vd, vc, rfl⟩ := hO.slice
      have h5 := (hr4.top 11 (.sl 0 b o0 0 L.length cp 4) rfl (by simp [den])).see _ (HpAll.one hrep2)
      refine seg cfg20_ok mixed PanicFree.body 1000 [true, false] [(22, false), (32, false)] h5.rebase (by first | trivial | exact HpRep.nil | assumption) (by kernel_rfl) fun s_ hs_ => ?_
      simp (maxSteps := 10000000) [SX.vc, SX.stop, SX.contS, SX.contB, SX.contW, SX.contR, SX.contD, SX.sxStep, SX.stepPure, SX.stepNew, SX.stepStore, SX.stepKeep, SX.guardIx, SX.evOp, SX.opd, SX.opds, SX.optOpd, SX.look, SX.putS, SX.gobs, SX.AllP, SX.leave, SX.lookC, SX.lookB, SX.lookT, SX.lookN, SX.findK, SX.evBuiltin, SX.ints, SX.foldI, SX.evBin, SX.evInt, SX.evStr, SX.evEq, SX.arith, SX.evLoad, SX.shapeUp, SX.evFieldAddr, SX.evField, SX.evIndexAddr, SX.evIndex, SX.evFill, SX.evBuild, SX.szs, SX.cellsV, SX.evNew, SX.evStore, SX.spliceL, SX.SV.cells, SX.evConv, SX.evSlice, SX.bnd, SX.evNil, SX.evUn, SX.evPick, SX.pickOpd, SX.popTo, SX.cnd, SX.env0, SX.TD.isAgg, SX.TD.isIface, SX.tails, SX.NotAgg, SX.evLookup, SX.evConvH, SX.evPtrEq, SX.isCells, SX.thaw, SX.frz, SX.fixB, SX.rootIx, SX.Froz, SX.frzStep, SX.fork, Go.Value.cells, Go.undef, cfg20, spnC, hx]
      refine ⟨by (unfold SX.Ob; first | trivial | omega | ((try simp only [SX.inK]); (try simp [SX.den, SX.IsU8, SX.AllP, *]); (try omega))), ?_⟩
      intro a6 w6 hr6' _
      have hr6 := h5.unbase hr6'
      have z6 : w.heap.size ≤ w6.heap.size := hr6.keeps.size
      have hO6 := hO.keep hr6'.keeps (by simp [frameAt, mutB])
      refine post_app (C := cfg20) cfg20_ok hr6 (by first | exact wanted_none rfl | exact wanted_zero (hr6.env.same rfl rfl rfl rfl) rfl (by simp)) rfl (by simp) rfl rfl rfl rfl rfl rfl rfl rfl rfl (by decide) (flatS _) (by (try simp only [List.length_append, List.length_cons, List.length_nil, List.length_map, List.length_take]); omega) (fun x hx => Nat.le_trans z6 hx) hO6 (RdS.lit (x := x) hr6.all.2.2.1.1 (by simp [spnC])) [] (fun _ _ _ _ => trivial) (fun x hx => .inl hx) fun V7 a7 w7 B7 hO7 hB7 hk7 hr7 => ?_
      refine seg cfg20_ok mixed PanicFree.body 1000 [] [] hr7.rebase (by first | trivial | exact HpRep.nil | assumption) (by kernel_rfl) fun s_ hs_ => ?_
      simp (maxSteps := 10000000) [SX.vc, SX.stop, SX.contS, SX.contB, SX.contW, SX.contR, SX.contD, SX.sxStep, SX.stepPure, SX.stepNew, SX.stepStore, SX.stepKeep, SX.guardIx, SX.evOp, SX.opd, SX.opds, SX.optOpd, SX.look, SX.putS, SX.gobs, SX.AllP, SX.leave, SX.lookC, SX.lookB, SX.lookT, SX.lookN, SX.findK, SX.evBuiltin, SX.ints, SX.foldI, SX.evBin, SX.evInt, SX.evStr, SX.evEq, SX.arith, SX.evLoad, SX.shapeUp, SX.evFieldAddr, SX.evField, SX.evIndexAddr, SX.evIndex, SX.evFill, SX.evBuild, SX.szs, SX.cellsV, SX.evNew, SX.evStore, SX.spliceL, SX.SV.cells, SX.evConv, SX.evSlice, SX.bnd, SX.evNil, SX.evUn, SX.evPick, SX.pickOpd, SX.popTo, SX.cnd, SX.env0, SX.TD.isAgg, SX.TD.isIface, SX.tails, SX.NotAgg, SX.evLookup, SX.evConvH, SX.evPtrEq, SX.isCells, SX.thaw, SX.frz, SX.fixB, SX.rootIx, SX.Froz, SX.frzStep, SX.fork, Go.Value.cells, Go.undef, cfg20]
      refine ⟨by (unfold SX.Ob; first | trivial | omega | ((try simp only [SX.inK]); (try simp [SX.den, SX.IsU8, SX.AllP, *]); (try omega))), ?_⟩
      intro a8 w8 hr8' _
      have hr8 := hr7.unbase hr8'
      exact post_rnd (L.length - (k + 1)) (by omega) ⟨k + 1, [x], V7, rfl, by omega, hj, by simp, hO7.keep hr8'.keeps (by simp [frameAt, mutB]), hr8.re (by simp [envTo, SX.look, den]) trivial rfl rfl⟩
    · obtain ⟨b', N, cap', u', row, hP', hv', hc0, hc1, hc2, hrep', hrow⟩ := hO.opn (show q < out.length by omega)
      cases hv'
      obtain ⟨y, hy⟩ : ∃ y, nth spn0 out q = y := ⟨_, rfl⟩
      have hrq : row q = [.v (.int .i64 y.fr), .v (.int .i64 y.to), .v (.int .i64 y.ow), .v (.int .i64 y.ep)] := by rw [hrow q (by omega), hy]; rfl
      have hqN : q < N := by omega
      have hst := stepS_at (e := x) hq hy
      have h5 := ((hr4.top 11 (.sl 0 b o0 0 L.length cp 4) rfl (by simp [den])).top 4 (.sl 1 b' 0 0 out.length cap' 4) rfl (by simp [den])).see [(b, false, .arr o0 L.length (fun j => spnC (nth spn0 L j)) 4 u fz), (b', true, .arr 0 N row 4 u' (0, 0))] ⟨⟨hrep2, by simp, by simp; omega⟩, ⟨hrep', fun _ => .inl hP', by simp⟩, trivial⟩
      by_cases ho : y.ow = x.ow
      · by_cases hp : y.ep = x.ep
        · refine seg cfg20_ok mixed PanicFree.body 1000 [true, true] [(22, true), (32, true)] h5.rebase (by first | trivial | exact HpRep.nil | assumption) (by kernel_rfl) fun s_ hs_ => ?_
          simp (maxSteps := 10000000) [SX.vc, SX.stop, SX.contS, SX.contB, SX.contW, SX.contR, SX.contD, SX.sxStep, SX.stepPure, SX.stepNew, SX.stepStore, SX.stepKeep, SX.guardIx, SX.evOp, SX.opd, SX.opds, SX.optOpd, SX.look, SX.putS, SX.gobs, SX.AllP, SX.leave, SX.lookC, SX.lookB, SX.lookT, SX.lookN, SX.findK, SX.evBuiltin, SX.ints, SX.foldI, SX.evBin, SX.evInt, SX.evStr, SX.evEq, SX.arith, SX.evLoad, SX.shapeUp, SX.evFieldAddr, SX.evField, SX.evIndexAddr, SX.evIndex, SX.evFill, SX.evBuild, SX.szs, SX.cellsV, SX.evNew, SX.evStore, SX.spliceL, SX.SV.cells, SX.evConv, SX.evSlice, SX.bnd, SX.evNil, SX.evUn, SX.evPick, SX.pickOpd, SX.popTo, SX.cnd, SX.env0, SX.TD.isAgg, SX.TD.isIface, SX.tails, SX.NotAgg, SX.evLookup, SX.evConvH, SX.evPtrEq, SX.isCells, SX.thaw, SX.frz, SX.fixB, SX.rootIx, SX.Froz, SX.frzStep, SX.fork, Go.Value.cells, Go.undef, cfg20, spnC, hx, hq, hrq, ho, hp]
          refine ⟨by (unfold SX.Ob; first | trivial | omega | ((try simp only [SX.inK]); (try simp [SX.den, SX.IsU8, SX.AllP, *]); (try omega))), ?_⟩
          intro a8 w8 hr8' _
          have hr8 := h5.unbase hr8'
          rw [if_pos ⟨ho, hp⟩] at hst
          have hO8 : OwP (fun z => w.heap.size ≤ z) w8 (.slice (some ⟨b', 0, none⟩) (q + 1) cap') (out.set q { y with to := x.to }) := .inr ⟨b', N, cap', u', _, hP', by simp [hq], hc0, by simpa using hc1, hc2, hr8.all.2.1.1, fun j hj => (by
            simp only [List.length_set] at hj
            unfold setRow
            by_cases hjq : j = q
            · subst hjq
              rw [if_pos rfl, nth_lt (by simpa using hj)]
              simp [spnC, ho, hp]
            · rw [if_neg hjq, hrow j hj, nth_lt hj, nth_lt (by simpa using hj), List.getElem_set_ne (by omega)])⟩
          exact post_rnd (L.length - (k + 1)) (by omega) ⟨k + 1, _, _, rfl, by omega, by rw [← hst]; exact hj, by simp; omega, hO8, hr8.re (by simp [envTo, SX.look, den]) trivial rfl rfl⟩
        · refine seg cfg20_ok mixed PanicFree.body 1000 [true, false] [(22, true), (32, true)] h5.rebase (by first | trivial | exact HpRep.nil | assumption) (by kernel_rfl) fun s_ hs_ => ?_
          simp (maxSteps := 10000000) [SX.vc, SX.stop, SX.contS, SX.contB, SX.contW, SX.contR, SX.contD, SX.sxStep, SX.stepPure, SX.stepNew, SX.stepStore, SX.stepKeep, SX.guardIx, SX.evOp, SX.opd, SX.opds, SX.optOpd, SX.look, SX.putS, SX.gobs, SX.AllP, SX.leave, SX.lookC, SX.lookB, SX.lookT, SX.lookN, SX.findK, SX.evBuiltin, SX.ints, SX.foldI, SX.evBin, SX.evInt, SX.evStr, SX.evEq, SX.arith, SX.evLoad, SX.shapeUp, SX.evFieldAddr, SX.evField, SX.evIndexAddr, SX.evIndex, SX.evFill, SX.evBuild, SX.szs, SX.cellsV, SX.evNew, SX.evStore, SX.spliceL, SX.SV.cells, SX.evConv, SX.evSlice, SX.bnd, SX.evNil, SX.evUn, SX.evPick, SX.pickOpd, SX.popTo, SX.cnd, SX.env0, SX.TD.isAgg, SX.TD.isIface, SX.tails, SX.NotAgg, SX.evLookup, SX.evConvH, SX.evPtrEq, SX.isCells, SX.thaw, SX.frz, SX.fixB, SX.rootIx, SX.Froz, SX.frzStep, SX.fork, Go.Value.cells, Go.undef, cfg20, spnC, hx, hq, hrq, ho, hp]
          refine ⟨by (unfold SX.Ob; first | trivial | omega | ((try simp only [SX.inK]); (try simp [SX.den, SX.IsU8, SX.AllP, *]); (try omega))), ?_⟩
          intro a8 w8 hr8' _
          have hr8 := h5.unbase hr8'
          have z8 : w.heap.size ≤ w8.heap.size := hr8.keeps.size
          rw [if_neg fun h => hp h.2] at hst
          have hO8 : OwP (fun z => w.heap.size ≤ z) w8 (.slice (some ⟨b', 0, none⟩) (q + 1) cap') out := .inr ⟨b', N, cap', u', row, hP', by rw [hq], hc0, hc1, hc2, hr8.all.2.1.1, hrow⟩
          refine post_app (C := cfg20) cfg20_ok hr8 (by first | exact wanted_none rfl | exact wanted_zero (hr8.env.same rfl rfl rfl rfl) rfl (by simp)) rfl (by simp) rfl rfl rfl rfl rfl rfl rfl rfl rfl (by decide) (flatS _) (by (try simp only [List.length_append, List.length_cons, List.length_nil, List.length_map, List.length_take]); omega) (fun x hx => Nat.le_trans z8 hx) hO8 (RdS.lit (x := x) hr8.all.2.2.2.1.1 (by simp [spnC])) [] (fun _ _ _ _ => trivial) (fun x hx => .inl hx) fun V9 a9 w9 B9 hO9 hB9 hk9 hr9 => ?_
          refine seg cfg20_ok mixed PanicFree.body 1000 [] [] hr9.rebase (by first | trivial | exact HpRep.nil | assumption) (by kernel_rfl) fun s_ hs_ => ?_
          simp (maxSteps := 10000000) [SX.vc, SX.stop, SX.contS, SX.contB, SX.contW, SX.contR, SX.contD, SX.sxStep, SX.stepPure, SX.stepNew, SX.stepStore, SX.stepKeep, SX.guardIx, SX.evOp, SX.opd, SX.opds, SX.optOpd, SX.look, SX.putS, SX.gobs, SX.AllP, SX.leave, SX.lookC, SX.lookB, SX.lookT, SX.lookN, SX.findK, SX.evBuiltin, SX.ints, SX.foldI, SX.evBin, SX.evInt, SX.evStr, SX.evEq, SX.arith, SX.evLoad, SX.shapeUp, SX.evFieldAddr, SX.evField, SX.evIndexAddr, SX.evIndex, SX.evFill, SX.evBuild, SX.szs, SX.cellsV, SX.evNew, SX.evStore, SX.spliceL, SX.SV.cells, SX.evConv, SX.evSlice, SX.bnd, SX.evNil, SX.evUn, SX.evPick, SX.pickOpd, SX.popTo, SX.cnd, SX.env0, SX.TD.isAgg, SX.TD.isIface, SX.tails, SX.NotAgg, SX.evLookup, SX.evConvH, SX.evPtrEq, SX.isCells, SX.thaw, SX.frz, SX.fixB, SX.rootIx, SX.Froz, SX.frzStep, SX.fork, Go.Value.cells, Go.undef, cfg20]
          refine ⟨by (unfold SX.Ob; first | trivial | omega | ((try simp only [SX.inK]); (try simp [SX.den, SX.IsU8, SX.AllP, *]); (try omega))), ?_⟩
          intro a10 w10 hr10' _
          have hr10 := hr9.unbase hr10'
          exact post_rnd (L.length - (k + 1)) (by omega) ⟨k + 1, _, V9, rfl, by omega, by rw [← hst]; exact hj, by simp; omega, hO9.keep hr10'.keeps (by simp [frameAt, mutB]), hr10.re (by simp [envTo, SX.look, den]) trivial rfl rfl⟩
      · refine seg cfg20_ok mixed PanicFree.body 1000 [true, false] [(22, true), (32, false)] h5.rebase (by first | trivial | exact HpRep.nil | assumption) (by kernel_rfl) fun s_ hs_ => ?_
        simp (maxSteps := 10000000) [SX.vc, SX.stop, SX.contS, SX.contB, SX.contW, SX.contR, SX.contD, SX.sxStep, SX.stepPure, SX.stepNew, SX.stepStore, SX.stepKeep, SX.guardIx, SX.evOp, SX.opd, SX.opds, SX.optOpd, SX.look, SX.putS, SX.gobs, SX.AllP, SX.leave, SX.lookC, SX.lookB, SX.lookT, SX.lookN, SX.findK, SX.evBuiltin, SX.ints, SX.foldI, SX.evBin, SX.evInt, SX.evStr, SX.evEq, SX.arith, SX.evLoad, SX.shapeUp, SX.evFieldAddr, SX.evField, SX.evIndexAddr, SX.evIndex, SX.evFill, SX.evBuild, SX.szs, SX.cellsV, SX.evNew, SX.evStore, SX.spliceL, SX.SV.cells, SX.evConv, SX.evSlice, SX.bnd, SX.evNil, SX.evUn, SX.evPick, SX.pickOpd, SX.popTo, SX.cnd, SX.env0, SX.TD.isAgg, SX.TD.isIface, SX.tails, SX.NotAgg, SX.evLookup, SX.evConvH, SX.evPtrEq, SX.isCells, SX.thaw, SX.frz, SX.fixB, SX.rootIx, SX.Froz, SX.frzStep, SX.fork, Go.Value.cells, Go.undef, cfg20, spnC, hx, hq, hrq, ho]
        refine ⟨by (unfold SX.Ob; first | trivial | omega | ((try simp only [SX.inK]); (try simp [SX.den, SX.IsU8, SX.AllP, *]); (try omega))), ?_⟩
        intro a8 w8 hr8' _
        have hr8 := h5.unbase hr8'
        have z8 : w.heap.size ≤ w8.heap.size := hr8.keeps.size
        rw [if_neg fun h => ho h.1] at hst
        have hO8 : OwP (fun z => w.heap.size ≤ z) w8 (.slice (some ⟨b', 0, none⟩) (q + 1) cap') out := .inr ⟨b', N, cap', u', row, hP', by rw [hq], hc0, hc1, hc2, hr8.all.2.1.1, hrow⟩
        refine post_app (C := cfg20) cfg20_ok hr8 (by first | exact wanted_none rfl | exact wanted_zero (hr8.env.same rfl rfl rfl rfl) rfl (by simp)) rfl (by simp) rfl rfl rfl rfl rfl rfl rfl rfl rfl (by decide) (flatS _) (by (try simp only [List.length_append, List.length_cons, List.length_nil, List.length_map, List.length_take]); omega) (fun x hx => Nat.le_trans z8 hx) hO8 (RdS.lit (x := x) hr8.all.2.2.2.1.1 (by simp [spnC])) [] (fun _ _ _ _ => trivial) (fun x hx => .inl hx) fun V9 a9 w9 B9 hO9 hB9 hk9 hr9 => ?_
        refine seg cfg20_ok mixed PanicFree.body 1000 [] [] hr9.rebase (by first | trivial | exact HpRep.nil | assumption) (by kernel_rfl) fun s_ hs_ => ?_
        simp (maxSteps := 10000000) [SX.vc, SX.stop, SX.contS, SX.contB, SX.contW, SX.contR, SX.contD, SX.sxStep, SX.stepPure, SX.stepNew, SX.stepStore, SX.stepKeep, SX.guardIx, SX.evOp, SX.opd, SX.opds, SX.optOpd, SX.look, SX.putS, SX.gobs, SX.AllP, SX.leave, SX.lookC, SX.lookB, SX.lookT, SX.lookN, SX.findK, SX.evBuiltin, SX.ints, SX.foldI, SX.evBin, SX.evInt, SX.evStr, SX.evEq, SX.arith, SX.evLoad, SX.shapeUp, SX.evFieldAddr, SX.evField, SX.evIndexAddr, SX.evIndex, SX.evFill, SX.evBuild, SX.szs, SX.cellsV, SX.evNew, SX.evStore, SX.spliceL, SX.SV.cells, SX.evConv, SX.evSlice, SX.bnd, SX.evNil, SX.evUn, SX.evPick, SX.pickOpd, SX.popTo, SX.cnd, SX.env0, SX.TD.isAgg, SX.TD.isIface, SX.tails, SX.NotAgg, SX.evLookup, SX.evConvH, SX.evPtrEq, SX.isCells, SX.thaw, SX.frz, SX.fixB, SX.rootIx, SX.Froz, SX.frzStep, SX.fork, Go.Value.cells, Go.undef, cfg20]
        refine ⟨by (unfold SX.Ob; first | trivial | omega | ((try simp only [SX.inK]); (try simp [SX.den, SX.IsU8, SX.AllP, *]); (try omega))), ?_⟩
        intro a10 w10 hr10' _
        have hr10 := hr9.unbase hr10'
        exact post_rnd (L.length - (k + 1)) (by omega) ⟨k + 1, _, V9, rfl, by omega, by rw [← hst]; exact hj, by simp; omega, hO9.keep hr10'.keeps (by simp [frameAt, mutB]), hr10.re (by simp [envTo, SX.look, den]) trivial rfl rfl⟩
  · obtain rfl : k = L.length := by omega
    refine seg cfg20_ok mixed PanicFree.body 1000 [false] [] hr4.rebase (by first | trivial | exact HpRep.nil | assumption) (by kernel_rfl) fun s_ hs_ => ?_
    simp (maxSteps := 10000000) [SX.vc, SX.stop, SX.contS, SX.contB, SX.contW, SX.contR, SX.contD, SX.sxStep, SX.stepPure, SX.stepNew, SX.stepStore, SX.stepKeep, SX.guardIx, SX.evOp, SX.opd, SX.opds, SX.optOpd, SX.look, SX.putS, SX.gobs, SX.AllP, SX.leave, SX.lookC, SX.lookB, SX.lookT, SX.lookN, SX.findK, SX.evBuiltin, SX.ints, SX.foldI, SX.evBin, SX.evInt, SX.evStr, SX.evEq, SX.arith, SX.evLoad, SX.shapeUp, SX.evFieldAddr, SX.evField, SX.evIndexAddr, SX.evIndex, SX.evFill, SX.evBuild, SX.szs, SX.cellsV, SX.evNew, SX.evStore, SX.spliceL, SX.SV.cells, SX.evConv, SX.evSlice, SX.bnd, SX.evNil, SX.evUn, SX.evPick, SX.pickOpd, SX.popTo, SX.cnd, SX.env0, SX.TD.isAgg, SX.TD.isIface, SX.tails, SX.NotAgg, SX.evLookup, SX.evConvH, SX.evPtrEq, SX.isCells, SX.thaw, SX.frz, SX.fixB, SX.rootIx, SX.Froz, SX.frzStep, SX.fork, Go.Value.cells, Go.undef, cfg20]
    refine ⟨by (unfold SX.Ob; first | trivial | omega | ((try simp only [SX.inK]); (try simp [SX.den, SX.IsU8, SX.AllP, *]); (try omega))), ?_⟩
    intro a6 w6 hr6' _
    have hr6 := hr4.unbase hr6'
    refine post_retn (end2 hr6 rfl rfl rfl ⟨.inl ⟨hC, _, rfl, ?_⟩, hr6.keeps.toBelow⟩).1
    rw [← hj, List.drop_length, joinGoS]
    exact hO.keep hr6'.keeps (by simp [frameAt, mutB])
end Go.Proofs
