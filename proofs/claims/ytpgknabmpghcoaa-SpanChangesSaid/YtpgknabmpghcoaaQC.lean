/- Spans: SpanChanges walked. -/
import Derived.Test.YtpgknabmpghcoaaQA
import Derived.Test.YtpgknabmpghcoaaQB
import Derived.Test.YtpgknabmpghcoaaPY
import Derived.Test.YtpgknabmpghcoaaPR
import Derived.Test.YtpgknabmpghcoaaPU
namespace Go.Proofs
set_option linter.unusedVariables false
set_option linter.unusedSimpArgs false
open Go Go.SX Go.RowKit

theorem chkS_free {o : Int} : ∀ {L : List Spn} {last : Int}, ChkS last L → ChkS last (L.map (freeS o)) ∧ endS last (L.map (freeS o)) = endS last L
  | [], _, _ => ⟨trivial, rfl⟩
  | s :: r, last, h => by
    obtain ⟨i1, i2⟩ := chkS_free (o := o) h.2.2.2
    have e1 : (freeS o s).fr = s.fr := by unfold freeS; split <;> rfl
    have e2 : (freeS o s).to = s.to := by unfold freeS; split <;> rfl
    refine ⟨⟨by rw [e1]; exact h.1, by rw [e1, e2]; exact h.2.1, ?_, by rw [e2]; exact i1⟩, by simp only [List.map_cons, endS, e2]; exact i2⟩
    unfold freeS
    split
    · exact .inl ⟨rfl, rfl⟩
    · exact h.2.2.1
theorem chkP_free {o : Int} {L : List Spn} (h : ChkP L) : ChkP (L.map (freeS o)) := by
  obtain ⟨g1, g2⟩ := chkS_free (o := o) h.1
  exact ⟨g1, by rw [g2]; exact h.2.1, by rw [g2]; exact h.2.2⟩

def joinL (L : List Spn) : List Spn := if ChkP L then joinS L else []
def JoinA (w : World) (L : List Spn) (e : Ending) (w' : World) : Prop := ∃ v', e = .returned (den (.tu [.v v', .v (.int .i64 (chkP L))])) ∧ RdP (fun x => w.heap.size ≤ x) w' v' (joinL L) ∧ Below w.heap.size w w'
theorem JoinR.all {w w' : World} {L : List Spn} {e : Ending} (h : JoinR w L e w') : JoinA w L e w' := by
  rcases h with ⟨⟨hC, v', he, hv⟩ | ⟨hn, he⟩, hb⟩
  · exact ⟨v', by rw [he, chkP, if_pos hC], by rw [joinL, if_pos hC]; exact hv.rd, hb⟩
  · exact ⟨.slice none 0 0, by rw [he, chkP, if_neg hn], by rw [joinL, if_neg hn]; exact OwS.nil.rd, hb⟩

theorem joinL_len (L : List Spn) : (joinL L).length ≤ L.length := by
  unfold joinL
  split
  · exact join_len L
  · simp
theorem cutL_len (L : List Spn) (A : List Int) : (cutL L A).length ≤ L.length + A.length := by
  unfold cutL
  split
  · exact cutsS_len A L
  · simp
theorem takeL_len (L : List Spn) (o : Int) : (takeL L o).length ≤ L.length := by
  unfold takeL
  split
  · have := join_len (L.map (freeS o))
    simpa using this
  · simp
theorem takeW_len (L : List Spn) (o : Int) : (takeW L o).length ≤ L.length := by
  unfold takeW
  split
  · exact List.length_filter_le _ _
  · simp

def WLoop (w wg : World) (va1 v vwas : Value) (L : List Spn) (o : Int) (n : Nat) (m : Nat) (a : Act) (w' : World) : Prop :=
  ∃ (k : Nat) (M : List Spn), m = n - k ∧ k ≤ n ∧ M.length = n ∧ OwP (fun x => wg.heap.size ≤ x) w' va1 M ∧ RdP (fun x => w.heap.size ≤ x ∧ x < wg.heap.size) w' vwas L ∧
    RepX (frame0 w) ⟨[(103, 0, .v (.int .i64 k)), (102, 0, .v (.int .i64 n)), (15, 0, .v va1), (0, 0, .v v), (14, 0, .v vwas), (4, 0, .v (.int .i64 o)), (13, 0, .v (.bool true))], [], 0, 0, 146, [], [], []⟩ a w'

set_option maxRecDepth 100000 in
set_option maxHeartbeats 32000000 in
/-- SpanChanges. -/
theorem changes_ok (w : World) (v va : Value) (L : List Spn) (A : List Int) (f t o e : Int) (hL : RdP (fun x => x < w.heap.size) w v L) (hA : RdI (fun x => x < w.heap.size) w va A) (hn : L.length ≤ 1000000000000000) : Calls Try.prog 7 #[v, va, .int .i64 f, .int .i64 t, .int .i64 o, .int .i64 e] w (fun ev w' => ev = .returned (.bool true) ∧ Below w.heap.size w w') := by
  obtain ⟨ad, cp, rfl⟩ := hL.slice
  obtain ⟨ad', cp', rfl⟩ := hA.slice
  refine enter (F := frame0 w) Try.func7 rfl [.v (.slice ad L.length cp), .v (.slice ad' A.length cp'), .v (.int .i64 f), .v (.int .i64 t), .v (.int .i64 o), .v (.int .i64 e)] [] (by simp [Try.f7, denL, den]) trivial (keeps0 w) fun a hr => ?_
  refine seg cfg7_ok mixed PanicFree.body 1000 [] [] hr (by first | trivial | exact HpRep.nil | assumption) (by kernel_rfl) fun s_ hs_ => ?_
  simp (maxSteps := 10000000) [SX.vc, SX.stop, SX.contS, SX.contB, SX.contW, SX.contR, SX.contD, SX.sxStep, SX.stepPure, SX.stepNew, SX.stepStore, SX.stepKeep, SX.guardIx, SX.evOp, SX.opd, SX.opds, SX.optOpd, SX.look, SX.putS, SX.gobs, SX.AllP, SX.leave, SX.lookC, SX.lookB, SX.lookT, SX.lookN, SX.findK, SX.evBuiltin, SX.ints, SX.foldI, SX.evBin, SX.evInt, SX.evStr, SX.evEq, SX.arith, SX.evLoad, SX.shapeUp, SX.evFieldAddr, SX.evField, SX.evIndexAddr, SX.evIndex, SX.evFill, SX.evBuild, SX.szs, SX.cellsV, SX.evNew, SX.evStore, SX.spliceL, SX.SV.cells, SX.evConv, SX.evSlice, SX.bnd, SX.evNil, SX.evUn, SX.evPick, SX.pickOpd, SX.popTo, SX.cnd, SX.env0, SX.TD.isAgg, SX.TD.isIface, SX.tails, SX.NotAgg, SX.evLookup, SX.evConvH, SX.evPtrEq, SX.isCells, SX.thaw, SX.frz, SX.fixB, SX.rootIx, SX.Froz, SX.frzStep, SX.fork, Go.Value.cells, Go.undef, cfg7, Try.f7]
  refine ⟨by (unfold SX.Ob; first | trivial | omega | ((try simp only [SX.inK]); (try simp [SX.den, SX.IsU8, SX.AllP, *]); (try omega))), ?_⟩
  intro a1 w1 hr1 _
  refine post_call 8 [] hr1 (by first | exact wanted_none rfl | exact wanted_zero (hr1.env.same rfl rfl rfl rfl) rfl (by simp)) rfl (callable 8 Try.func8) (live_ok w1) ?_
  rintro e2' w2 ⟨rfl, hb2⟩
  refine ⟨_, rfl, ?_⟩
  have h2 := hr1.ret hb2 22 (.v (.bool true)) rfl _ (hr1.all.below hb2) (by simp) rfl
  by_cases c1 : 200 < L.length
  · have c1' : (200 : Int) < (L.length : Int) := by omega
    refine seg cfg7_ok mixed PanicFree.body 1000 [true] [(26, true)] h2 (by first | trivial | exact HpRep.nil | assumption) (by kernel_rfl) fun s_ hs_ => ?_
    simp (maxSteps := 10000000) [SX.vc, SX.stop, SX.contS, SX.contB, SX.contW, SX.contR, SX.contD, SX.sxStep, SX.stepPure, SX.stepNew, SX.stepStore, SX.stepKeep, SX.guardIx, SX.evOp, SX.opd, SX.opds, SX.optOpd, SX.look, SX.putS, SX.gobs, SX.AllP, SX.leave, SX.lookC, SX.lookB, SX.lookT, SX.lookN, SX.findK, SX.evBuiltin, SX.ints, SX.foldI, SX.evBin, SX.evInt, SX.evStr, SX.evEq, SX.arith, SX.evLoad, SX.shapeUp, SX.evFieldAddr, SX.evField, SX.evIndexAddr, SX.evIndex, SX.evFill, SX.evBuild, SX.szs, SX.cellsV, SX.evNew, SX.evStore, SX.spliceL, SX.SV.cells, SX.evConv, SX.evSlice, SX.bnd, SX.evNil, SX.evUn, SX.evPick, SX.pickOpd, SX.popTo, SX.cnd, SX.env0, SX.TD.isAgg, SX.TD.isIface, SX.tails, SX.NotAgg, SX.evLookup, SX.evConvH, SX.evPtrEq, SX.isCells, SX.thaw, SX.frz, SX.fixB, SX.rootIx, SX.Froz, SX.frzStep, SX.fork, Go.Value.cells, Go.undef, cfg7, c1']
    refine ⟨by (unfold SX.Ob; first | trivial | omega | ((try simp only [SX.inK]); (try simp [SX.den, SX.IsU8, SX.AllP, *]); (try omega))), ?_⟩
    intro a3 w3 hr3 _
    exact post_retn (end1 hr3 rfl rfl ⟨rfl, hr3.keeps.toBelow⟩).1
  have c1' : ¬ (200 : Int) < (L.length : Int) := by omega
  by_cases c2 : 100 < A.length
  · have c2' : (100 : Int) < (A.length : Int) := by omega
    refine seg cfg7_ok mixed PanicFree.body 1000 [true] [(26, false)] h2 (by first | trivial | exact HpRep.nil | assumption) (by kernel_rfl) fun s_ hs_ => ?_
    simp (maxSteps := 10000000) [SX.vc, SX.stop, SX.contS, SX.contB, SX.contW, SX.contR, SX.contD, SX.sxStep, SX.stepPure, SX.stepNew, SX.stepStore, SX.stepKeep, SX.guardIx, SX.evOp, SX.opd, SX.opds, SX.optOpd, SX.look, SX.putS, SX.gobs, SX.AllP, SX.leave, SX.lookC, SX.lookB, SX.lookT, SX.lookN, SX.findK, SX.evBuiltin, SX.ints, SX.foldI, SX.evBin, SX.evInt, SX.evStr, SX.evEq, SX.arith, SX.evLoad, SX.shapeUp, SX.evFieldAddr, SX.evField, SX.evIndexAddr, SX.evIndex, SX.evFill, SX.evBuild, SX.szs, SX.cellsV, SX.evNew, SX.evStore, SX.spliceL, SX.SV.cells, SX.evConv, SX.evSlice, SX.bnd, SX.evNil, SX.evUn, SX.evPick, SX.pickOpd, SX.popTo, SX.cnd, SX.env0, SX.TD.isAgg, SX.TD.isIface, SX.tails, SX.NotAgg, SX.evLookup, SX.evConvH, SX.evPtrEq, SX.isCells, SX.thaw, SX.frz, SX.fixB, SX.rootIx, SX.Froz, SX.frzStep, SX.fork, Go.Value.cells, Go.undef, cfg7, c1', c2']
    refine ⟨by (unfold SX.Ob; first | trivial | omega | ((try simp only [SX.inK]); (try simp [SX.den, SX.IsU8, SX.AllP, *]); (try omega))), ?_⟩
    intro a3 w3 hr3 _
    exact post_retn (end1 hr3 rfl rfl ⟨rfl, hr3.keeps.toBelow⟩).1
  have c2' : ¬ (100 : Int) < (A.length : Int) := by omega
  refine seg cfg7_ok mixed PanicFree.body 1000 [false] [(26, false)] h2 (by first | trivial | exact HpRep.nil | assumption) (by kernel_rfl) fun s_ hs_ => ?_
  simp (maxSteps := 10000000) [SX.vc, SX.stop, SX.contS, SX.contB, SX.contW, SX.contR, SX.contD, SX.sxStep, SX.stepPure, SX.stepNew, SX.stepStore, SX.stepKeep, SX.guardIx, SX.evOp, SX.opd, SX.opds, SX.optOpd, SX.look, SX.putS, SX.gobs, SX.AllP, SX.leave, SX.lookC, SX.lookB, SX.lookT, SX.lookN, SX.findK, SX.evBuiltin, SX.ints, SX.foldI, SX.evBin, SX.evInt, SX.evStr, SX.evEq, SX.arith, SX.evLoad, SX.shapeUp, SX.evFieldAddr, SX.evField, SX.evIndexAddr, SX.evIndex, SX.evFill, SX.evBuild, SX.szs, SX.cellsV, SX.evNew, SX.evStore, SX.spliceL, SX.SV.cells, SX.evConv, SX.evSlice, SX.bnd, SX.evNil, SX.evUn, SX.evPick, SX.pickOpd, SX.popTo, SX.cnd, SX.env0, SX.TD.isAgg, SX.TD.isIface, SX.tails, SX.NotAgg, SX.evLookup, SX.evConvH, SX.evPtrEq, SX.isCells, SX.thaw, SX.frz, SX.fixB, SX.rootIx, SX.Froz, SX.frzStep, SX.fork, Go.Value.cells, Go.undef, cfg7, c1', c2']
  refine ⟨by (unfold SX.Ob; first | trivial | omega | ((try simp only [SX.inK]); (try simp [SX.den, SX.IsU8, SX.AllP, *]); (try omega))), ?_⟩
  intro a3 w3 hr3 _
  have z3 : w.heap.size ≤ w3.heap.size := hr3.keeps.size
  refine post_app (C := cfg7) cfg7_ok hr3 (by first | exact wanted_none rfl | exact wanted_zero (hr3.env.same rfl rfl rfl rfl) rfl (by simp)) rfl (by simp) rfl rfl rfl rfl rfl rfl rfl rfl rfl (by decide) (flatS _) (by (try simp only [List.length_append, List.length_cons, List.length_nil, List.length_map, List.length_take]); omega) (fun x hx => Nat.le_trans z3 hx) (OwS.nil (P := fun x => w.heap.size ≤ x)) (hL.below hr3.keeps.toBelow) [] (fun _ _ _ _ => trivial) (fun x hx => .inl hx) fun Vw a4 w4 B4 hO4 hB4 hk4 hr4 => ?_
  have hS4 : RdP (fun x => w.heap.size ≤ x) w4 Vw L := hO4.rd
  have z4 : w.heap.size ≤ w4.heap.size := hr4.keeps.size
  refine seg cfg7_ok mixed PanicFree.body 1000 [] [] hr4.rebase (by first | trivial | exact HpRep.nil | assumption) (by kernel_rfl) fun s_ hs_ => ?_
  simp (maxSteps := 10000000) [SX.vc, SX.stop, SX.contS, SX.contB, SX.contW, SX.contR, SX.contD, SX.sxStep, SX.stepPure, SX.stepNew, SX.stepStore, SX.stepKeep, SX.guardIx, SX.evOp, SX.opd, SX.opds, SX.optOpd, SX.look, SX.putS, SX.gobs, SX.AllP, SX.leave, SX.lookC, SX.lookB, SX.lookT, SX.lookN, SX.findK, SX.evBuiltin, SX.ints, SX.foldI, SX.evBin, SX.evInt, SX.evStr, SX.evEq, SX.arith, SX.evLoad, SX.shapeUp, SX.evFieldAddr, SX.evField, SX.evIndexAddr, SX.evIndex, SX.evFill, SX.evBuild, SX.szs, SX.cellsV, SX.evNew, SX.evStore, SX.spliceL, SX.SV.cells, SX.evConv, SX.evSlice, SX.bnd, SX.evNil, SX.evUn, SX.evPick, SX.pickOpd, SX.popTo, SX.cnd, SX.env0, SX.TD.isAgg, SX.TD.isIface, SX.tails, SX.NotAgg, SX.evLookup, SX.evConvH, SX.evPtrEq, SX.isCells, SX.thaw, SX.frz, SX.fixB, SX.rootIx, SX.Froz, SX.frzStep, SX.fork, Go.Value.cells, Go.undef, cfg7]
  refine ⟨by (unfold SX.Ob; first | trivial | omega | ((try simp only [SX.inK]); (try simp [SX.den, SX.IsU8, SX.AllP, *]); (try omega))), ?_⟩
  intro a5 w5 hr5' _
  have hr5 := hr4.unbase hr5'
  have hS5 := (hS4.mono (P' := fun x => w.heap.size ≤ x ∧ x < w4.heap.size) fun x h1 h2 => ⟨h2, h1⟩).keep hr5'.keeps (by simp [frameAt, mutB])
  refine post_call 14 [.v (.slice ad L.length cp), .v (.slice ad' A.length cp')] hr5 (by first | exact wanted_none rfl | exact wanted_zero (hr5.env.same rfl rfl rfl rfl) rfl (by simp)) rfl (callable 14 Try.func14) (Cut_ok w5 _ _ L A (hL.below hr5.keeps.toBelow) (hA.below hr5.keeps.toBelow) (by omega) (by omega)) ?_
  rintro e6 w6 ⟨v6, rfl, hO6, hb6⟩
  refine ⟨_, rfl, ?_⟩
  have h6 := hr5.ret hb6 37 (.tu [.v v6, .v (.int .i64 (cutE L A))]) rfl _ (hr5.all.below hb6) (by simp) rfl
  have hS6 := hS5.below hb6
  refine seg cfg7_ok mixed PanicFree.body 1000 [] [] h6.rebase (by first | trivial | exact HpRep.nil | assumption) (by kernel_rfl) fun s_ hs_ => ?_
  simp (maxSteps := 10000000) [SX.vc, SX.stop, SX.contS, SX.contB, SX.contW, SX.contR, SX.contD, SX.sxStep, SX.stepPure, SX.stepNew, SX.stepStore, SX.stepKeep, SX.guardIx, SX.evOp, SX.opd, SX.opds, SX.optOpd, SX.look, SX.putS, SX.gobs, SX.AllP, SX.leave, SX.lookC, SX.lookB, SX.lookT, SX.lookN, SX.findK, SX.evBuiltin, SX.ints, SX.foldI, SX.evBin, SX.evInt, SX.evStr, SX.evEq, SX.arith, SX.evLoad, SX.shapeUp, SX.evFieldAddr, SX.evField, SX.evIndexAddr, SX.evIndex, SX.evFill, SX.evBuild, SX.szs, SX.cellsV, SX.evNew, SX.evStore, SX.spliceL, SX.SV.cells, SX.evConv, SX.evSlice, SX.bnd, SX.evNil, SX.evUn, SX.evPick, SX.pickOpd, SX.popTo, SX.cnd, SX.env0, SX.TD.isAgg, SX.TD.isIface, SX.tails, SX.NotAgg, SX.evLookup, SX.evConvH, SX.evPtrEq, SX.isCells, SX.thaw, SX.frz, SX.fixB, SX.rootIx, SX.Froz, SX.frzStep, SX.fork, Go.Value.cells, Go.undef, cfg7]
  refine ⟨by (unfold SX.Ob; first | trivial | omega | ((try simp only [SX.inK]); (try simp [SX.den, SX.IsU8, SX.AllP, *]); (try omega))), ?_⟩
  intro a7 w7 hr7' _
  have hr7 := h6.unbase hr7'
  have hS7 := hS6.keep hr7'.keeps (by simp [frameAt, mutB])
  have hX7 := hO6.rd.keep hr7'.keeps (by simp [frameAt, mutB])
  refine post_call 19 [.v (.slice ad L.length cp), .v (.slice ad' A.length cp')] hr7 (by first | exact wanted_none rfl | exact wanted_zero (hr7.env.same rfl rfl rfl rfl) rfl (by simp)) rfl (callable 19 Try.func19) (rCut_ok w7 _ _ L A (hL.below hr7.keeps.toBelow) (hA.below hr7.keeps.toBelow) (by omega) (by omega)) ?_
  rintro e8 w8 ⟨v8, rfl, hO8, hb8⟩
  refine ⟨_, rfl, ?_⟩
  have h8 := hr7.ret hb8 43 (.tu [.v v8, .v (.int .i64 (cutE L A))]) rfl _ (hr7.all.below hb8) (by simp) rfl
  have hS8 := hS7.below hb8
  have hX8 := hX7.below hb8
  refine seg cfg7_ok mixed PanicFree.body 1000 [] [] h8.rebase (by first | trivial | exact HpRep.nil | assumption) (by kernel_rfl) fun s_ hs_ => ?_
  simp (maxSteps := 10000000) [SX.vc, SX.stop, SX.contS, SX.contB, SX.contW, SX.contR, SX.contD, SX.sxStep, SX.stepPure, SX.stepNew, SX.stepStore, SX.stepKeep, SX.guardIx, SX.evOp, SX.opd, SX.opds, SX.optOpd, SX.look, SX.putS, SX.gobs, SX.AllP, SX.leave, SX.lookC, SX.lookB, SX.lookT, SX.lookN, SX.findK, SX.evBuiltin, SX.ints, SX.foldI, SX.evBin, SX.evInt, SX.evStr, SX.evEq, SX.arith, SX.evLoad, SX.shapeUp, SX.evFieldAddr, SX.evField, SX.evIndexAddr, SX.evIndex, SX.evFill, SX.evBuild, SX.szs, SX.cellsV, SX.evNew, SX.evStore, SX.spliceL, SX.SV.cells, SX.evConv, SX.evSlice, SX.bnd, SX.evNil, SX.evUn, SX.evPick, SX.pickOpd, SX.popTo, SX.cnd, SX.env0, SX.TD.isAgg, SX.TD.isIface, SX.tails, SX.NotAgg, SX.evLookup, SX.evConvH, SX.evPtrEq, SX.isCells, SX.thaw, SX.frz, SX.fixB, SX.rootIx, SX.Froz, SX.frzStep, SX.fork, Go.Value.cells, Go.undef, cfg7]
  refine ⟨by (unfold SX.Ob; first | trivial | omega | ((try simp only [SX.inK]); (try simp [SX.den, SX.IsU8, SX.AllP, *]); (try omega))), ?_⟩
  intro a9 w9 hr9' _
  have hr9 := h8.unbase hr9'
  have hS9 := hS8.keep hr9'.keeps (by simp [frameAt, mutB])
  have hX9 := hX8.keep hr9'.keeps (by simp [frameAt, mutB])
  have hY9 := hO8.rd.keep hr9'.keeps (by simp [frameAt, mutB])
  have l1 := cutL_len L A
  refine post_call 13 [.v v6, .v v8] hr9 (by first | exact wanted_none rfl | exact wanted_zero (hr9.env.same rfl rfl rfl rfl) rfl (by simp)) rfl (callable 13 Try.func13) (same_ok w9 v6 v8 _ _ hX9 hY9 (by omega)) ?_
  rintro e10 w10 ⟨rfl, hb10⟩
  refine ⟨_, rfl, ?_⟩
  have h10 := hr9.ret hb10 48 (.v (.bool (decide (cutL L A = cutL L A)))) rfl _ (hr9.all.below hb10) (by simp) rfl
  have hS10 := hS9.below hb10
  refine seg cfg7_ok mixed PanicFree.body 1000 [false] [(50, false)] h10.rebase (by first | trivial | exact HpRep.nil | assumption) (by kernel_rfl) fun s_ hs_ => ?_
  simp (maxSteps := 10000000) [SX.vc, SX.stop, SX.contS, SX.contB, SX.contW, SX.contR, SX.contD, SX.sxStep, SX.stepPure, SX.stepNew, SX.stepStore, SX.stepKeep, SX.guardIx, SX.evOp, SX.opd, SX.opds, SX.optOpd, SX.look, SX.putS, SX.gobs, SX.AllP, SX.leave, SX.lookC, SX.lookB, SX.lookT, SX.lookN, SX.findK, SX.evBuiltin, SX.ints, SX.foldI, SX.evBin, SX.evInt, SX.evStr, SX.evEq, SX.arith, SX.evLoad, SX.shapeUp, SX.evFieldAddr, SX.evField, SX.evIndexAddr, SX.evIndex, SX.evFill, SX.evBuild, SX.szs, SX.cellsV, SX.evNew, SX.evStore, SX.spliceL, SX.SV.cells, SX.evConv, SX.evSlice, SX.bnd, SX.evNil, SX.evUn, SX.evPick, SX.pickOpd, SX.popTo, SX.cnd, SX.env0, SX.TD.isAgg, SX.TD.isIface, SX.tails, SX.NotAgg, SX.evLookup, SX.evConvH, SX.evPtrEq, SX.isCells, SX.thaw, SX.frz, SX.fixB, SX.rootIx, SX.Froz, SX.frzStep, SX.fork, Go.Value.cells, Go.undef, cfg7]
  refine ⟨by (unfold SX.Ob; first | trivial | omega | ((try simp only [SX.inK]); (try simp [SX.den, SX.IsU8, SX.AllP, *]); (try omega))), ?_⟩
  intro a11 w11 hr11' _
  have hr11 := h10.unbase hr11'
  have hS11 := hS10.keep hr11'.keeps (by simp [frameAt, mutB])
  refine post_call 12 [.v (.slice ad L.length cp)] hr11 (by first | exact wanted_none rfl | exact wanted_zero (hr11.env.same rfl rfl rfl rfl) rfl (by simp)) rfl (callable 12 Try.func12) ((Join_ok w11 _ L (hL.below hr11.keeps.toBelow) (by omega)).mono fun _ _ h => h.all) ?_
  rintro e12 w12 ⟨v12, rfl, hO12, hb12⟩
  refine ⟨_, rfl, ?_⟩
  have h12 := hr11.ret hb12 57 (.tu [.v v12, .v (.int .i64 (chkP L))]) rfl _ (hr11.all.below hb12) (by simp) rfl
  have hS12 := hS11.below hb12
  refine seg cfg7_ok mixed PanicFree.body 1000 [] [] h12.rebase (by first | trivial | exact HpRep.nil | assumption) (by kernel_rfl) fun s_ hs_ => ?_
  simp (maxSteps := 10000000) [SX.vc, SX.stop, SX.contS, SX.contB, SX.contW, SX.contR, SX.contD, SX.sxStep, SX.stepPure, SX.stepNew, SX.stepStore, SX.stepKeep, SX.guardIx, SX.evOp, SX.opd, SX.opds, SX.optOpd, SX.look, SX.putS, SX.gobs, SX.AllP, SX.leave, SX.lookC, SX.lookB, SX.lookT, SX.lookN, SX.findK, SX.evBuiltin, SX.ints, SX.foldI, SX.evBin, SX.evInt, SX.evStr, SX.evEq, SX.arith, SX.evLoad, SX.shapeUp, SX.evFieldAddr, SX.evField, SX.evIndexAddr, SX.evIndex, SX.evFill, SX.evBuild, SX.szs, SX.cellsV, SX.evNew, SX.evStore, SX.spliceL, SX.SV.cells, SX.evConv, SX.evSlice, SX.bnd, SX.evNil, SX.evUn, SX.evPick, SX.pickOpd, SX.popTo, SX.cnd, SX.env0, SX.TD.isAgg, SX.TD.isIface, SX.tails, SX.NotAgg, SX.evLookup, SX.evConvH, SX.evPtrEq, SX.isCells, SX.thaw, SX.frz, SX.fixB, SX.rootIx, SX.Froz, SX.frzStep, SX.fork, Go.Value.cells, Go.undef, cfg7]
  refine ⟨by (unfold SX.Ob; first | trivial | omega | ((try simp only [SX.inK]); (try simp [SX.den, SX.IsU8, SX.AllP, *]); (try omega))), ?_⟩
  intro a13 w13 hr13' _
  have hr13 := h12.unbase hr13'
  have hS13 := hS12.keep hr13'.keeps (by simp [frameAt, mutB])
  have hX13 := hO12.keep hr13'.keeps (by simp [frameAt, mutB])
  refine post_call 20 [.v (.slice ad L.length cp)] hr13 (by first | exact wanted_none rfl | exact wanted_zero (hr13.env.same rfl rfl rfl rfl) rfl (by simp)) rfl (callable 20 Try.func20) ((rjoin_ok w13 _ L (hL.below hr13.keeps.toBelow) (by omega)).mono fun _ _ h => h.all) ?_
  rintro e14 w14 ⟨v14, rfl, hO14, hb14⟩
  refine ⟨_, rfl, ?_⟩
  have h14 := hr13.ret hb14 62 (.tu [.v v14, .v (.int .i64 (chkP L))]) rfl _ (hr13.all.below hb14) (by simp) rfl
  have hS14 := hS13.below hb14
  have hX14 := hX13.below hb14
  refine seg cfg7_ok mixed PanicFree.body 1000 [] [] h14.rebase (by first | trivial | exact HpRep.nil | assumption) (by kernel_rfl) fun s_ hs_ => ?_
  simp (maxSteps := 10000000) [SX.vc, SX.stop, SX.contS, SX.contB, SX.contW, SX.contR, SX.contD, SX.sxStep, SX.stepPure, SX.stepNew, SX.stepStore, SX.stepKeep, SX.guardIx, SX.evOp, SX.opd, SX.opds, SX.optOpd, SX.look, SX.putS, SX.gobs, SX.AllP, SX.leave, SX.lookC, SX.lookB, SX.lookT, SX.lookN, SX.findK, SX.evBuiltin, SX.ints, SX.foldI, SX.evBin, SX.evInt, SX.evStr, SX.evEq, SX.arith, SX.evLoad, SX.shapeUp, SX.evFieldAddr, SX.evField, SX.evIndexAddr, SX.evIndex, SX.evFill, SX.evBuild, SX.szs, SX.cellsV, SX.evNew, SX.evStore, SX.spliceL, SX.SV.cells, SX.evConv, SX.evSlice, SX.bnd, SX.evNil, SX.evUn, SX.evPick, SX.pickOpd, SX.popTo, SX.cnd, SX.env0, SX.TD.isAgg, SX.TD.isIface, SX.tails, SX.NotAgg, SX.evLookup, SX.evConvH, SX.evPtrEq, SX.isCells, SX.thaw, SX.frz, SX.fixB, SX.rootIx, SX.Froz, SX.frzStep, SX.fork, Go.Value.cells, Go.undef, cfg7]
  refine ⟨by (unfold SX.Ob; first | trivial | omega | ((try simp only [SX.inK]); (try simp [SX.den, SX.IsU8, SX.AllP, *]); (try omega))), ?_⟩
  intro a15 w15 hr15' _
  have hr15 := h14.unbase hr15'
  have hS15 := hS14.keep hr15'.keeps (by simp [frameAt, mutB])
  have hX15 := hX14.keep hr15'.keeps (by simp [frameAt, mutB])
  have hY15 := hO14.keep hr15'.keeps (by simp [frameAt, mutB])
  have l2 := joinL_len L
  refine post_call 13 [.v v12, .v v14] hr15 (by first | exact wanted_none rfl | exact wanted_zero (hr15.env.same rfl rfl rfl rfl) rfl (by simp)) rfl (callable 13 Try.func13) (same_ok w15 v12 v14 _ _ hX15 hY15 (by omega)) ?_
  rintro e16 w16 ⟨rfl, hb16⟩
  refine ⟨_, rfl, ?_⟩
  have h16 := hr15.ret hb16 67 (.v (.bool (decide (joinL L = joinL L)))) rfl _ (hr15.all.below hb16) (by simp) rfl
  have hS16 := hS15.below hb16
  refine seg cfg7_ok mixed PanicFree.body 1000 [false] [(69, false)] h16.rebase (by first | trivial | exact HpRep.nil | assumption) (by kernel_rfl) fun s_ hs_ => ?_
  simp (maxSteps := 10000000) [SX.vc, SX.stop, SX.contS, SX.contB, SX.contW, SX.contR, SX.contD, SX.sxStep, SX.stepPure, SX.stepNew, SX.stepStore, SX.stepKeep, SX.guardIx, SX.evOp, SX.opd, SX.opds, SX.optOpd, SX.look, SX.putS, SX.gobs, SX.AllP, SX.leave, SX.lookC, SX.lookB, SX.lookT, SX.lookN, SX.findK, SX.evBuiltin, SX.ints, SX.foldI, SX.evBin, SX.evInt, SX.evStr, SX.evEq, SX.arith, SX.evLoad, SX.shapeUp, SX.evFieldAddr, SX.evField, SX.evIndexAddr, SX.evIndex, SX.evFill, SX.evBuild, SX.szs, SX.cellsV, SX.evNew, SX.evStore, SX.spliceL, SX.SV.cells, SX.evConv, SX.evSlice, SX.bnd, SX.evNil, SX.evUn, SX.evPick, SX.pickOpd, SX.popTo, SX.cnd, SX.env0, SX.TD.isAgg, SX.TD.isIface, SX.tails, SX.NotAgg, SX.evLookup, SX.evConvH, SX.evPtrEq, SX.isCells, SX.thaw, SX.frz, SX.fixB, SX.rootIx, SX.Froz, SX.frzStep, SX.fork, Go.Value.cells, Go.undef, cfg7]
  refine ⟨by (unfold SX.Ob; first | trivial | omega | ((try simp only [SX.inK]); (try simp [SX.den, SX.IsU8, SX.AllP, *]); (try omega))), ?_⟩
  intro a17 w17 hr17' _
  have hr17 := h16.unbase hr17'
  have hS17 := hS16.keep hr17'.keeps (by simp [frameAt, mutB])
  refine post_call 10 [.v (.slice ad L.length cp), .v (.int .i64 f), .v (.int .i64 t), .v (.int .i64 o), .v (.int .i64 e)] hr17 (by first | exact wanted_none rfl | exact wanted_zero (hr17.env.same rfl rfl rfl rfl) rfl (by simp)) rfl (callable 10 Try.func10) (Give_ok w17 _ L f t o e (hL.below hr17.keeps.toBelow) (by omega)) ?_
  rintro e18 w18 ⟨v18, rfl, hO18, hb18⟩
  refine ⟨_, rfl, ?_⟩
  have h18 := hr17.ret hb18 80 (.tu [.v v18, .v (.int .i64 (giveE L f t o e))]) rfl _ (hr17.all.below hb18) (by simp) rfl
  have hS18 := hS17.below hb18
  refine seg cfg7_ok mixed PanicFree.body 1000 [] [] h18.rebase (by first | trivial | exact HpRep.nil | assumption) (by kernel_rfl) fun s_ hs_ => ?_
  simp (maxSteps := 10000000) [SX.vc, SX.stop, SX.contS, SX.contB, SX.contW, SX.contR, SX.contD, SX.sxStep, SX.stepPure, SX.stepNew, SX.stepStore, SX.stepKeep, SX.guardIx, SX.evOp, SX.opd, SX.opds, SX.optOpd, SX.look, SX.putS, SX.gobs, SX.AllP, SX.leave, SX.lookC, SX.lookB, SX.lookT, SX.lookN, SX.findK, SX.evBuiltin, SX.ints, SX.foldI, SX.evBin, SX.evInt, SX.evStr, SX.evEq, SX.arith, SX.evLoad, SX.shapeUp, SX.evFieldAddr, SX.evField, SX.evIndexAddr, SX.evIndex, SX.evFill, SX.evBuild, SX.szs, SX.cellsV, SX.evNew, SX.evStore, SX.spliceL, SX.SV.cells, SX.evConv, SX.evSlice, SX.bnd, SX.evNil, SX.evUn, SX.evPick, SX.pickOpd, SX.popTo, SX.cnd, SX.env0, SX.TD.isAgg, SX.TD.isIface, SX.tails, SX.NotAgg, SX.evLookup, SX.evConvH, SX.evPtrEq, SX.isCells, SX.thaw, SX.frz, SX.fixB, SX.rootIx, SX.Froz, SX.frzStep, SX.fork, Go.Value.cells, Go.undef, cfg7]
  refine ⟨by (unfold SX.Ob; first | trivial | omega | ((try simp only [SX.inK]); (try simp [SX.den, SX.IsU8, SX.AllP, *]); (try omega))), ?_⟩
  intro a19 w19 hr19' _
  have hr19 := h18.unbase hr19'
  have hS19 := hS18.keep hr19'.keeps (by simp [frameAt, mutB])
  have hX19 := hO18.keep hr19'.keeps (by simp [frameAt, mutB])
  refine post_call 21 [.v (.slice ad L.length cp), .v (.int .i64 f), .v (.int .i64 t), .v (.int .i64 o), .v (.int .i64 e)] hr19 (by first | exact wanted_none rfl | exact wanted_zero (hr19.env.same rfl rfl rfl rfl) rfl (by simp)) rfl (callable 21 Try.func21) (rGive_ok w19 _ L f t o e (hL.below hr19.keeps.toBelow) (by omega)) ?_
  rintro e20 w20 ⟨v20, rfl, hO20, hb20⟩
  refine ⟨_, rfl, ?_⟩
  have h20 := hr19.ret hb20 89 (.tu [.v v20, .v (.int .i64 (giveE L f t o e))]) rfl _ (hr19.all.below hb20) (by simp) rfl
  have hS20 := hS19.below hb20
  have hX20 := hX19.below hb20
  refine seg cfg7_ok mixed PanicFree.body 1000 [] [] h20.rebase (by first | trivial | exact HpRep.nil | assumption) (by kernel_rfl) fun s_ hs_ => ?_
  simp (maxSteps := 10000000) [SX.vc, SX.stop, SX.contS, SX.contB, SX.contW, SX.contR, SX.contD, SX.sxStep, SX.stepPure, SX.stepNew, SX.stepStore, SX.stepKeep, SX.guardIx, SX.evOp, SX.opd, SX.opds, SX.optOpd, SX.look, SX.putS, SX.gobs, SX.AllP, SX.leave, SX.lookC, SX.lookB, SX.lookT, SX.lookN, SX.findK, SX.evBuiltin, SX.ints, SX.foldI, SX.evBin, SX.evInt, SX.evStr, SX.evEq, SX.arith, SX.evLoad, SX.shapeUp, SX.evFieldAddr, SX.evField, SX.evIndexAddr, SX.evIndex, SX.evFill, SX.evBuild, SX.szs, SX.cellsV, SX.evNew, SX.evStore, SX.spliceL, SX.SV.cells, SX.evConv, SX.evSlice, SX.bnd, SX.evNil, SX.evUn, SX.evPick, SX.pickOpd, SX.popTo, SX.cnd, SX.env0, SX.TD.isAgg, SX.TD.isIface, SX.tails, SX.NotAgg, SX.evLookup, SX.evConvH, SX.evPtrEq, SX.isCells, SX.thaw, SX.frz, SX.fixB, SX.rootIx, SX.Froz, SX.frzStep, SX.fork, Go.Value.cells, Go.undef, cfg7]
  refine ⟨by (unfold SX.Ob; first | trivial | omega | ((try simp only [SX.inK]); (try simp [SX.den, SX.IsU8, SX.AllP, *]); (try omega))), ?_⟩
  intro a21 w21 hr21' _
  have hr21 := h20.unbase hr21'
  have hS21 := hS20.keep hr21'.keeps (by simp [frameAt, mutB])
  have hX21 := hX20.keep hr21'.keeps (by simp [frameAt, mutB])
  have hY21 := hO20.rd.keep hr21'.keeps (by simp [frameAt, mutB])
  have l3 := give_len L f t o e
  refine post_call 13 [.v v18, .v v20] hr21 (by first | exact wanted_none rfl | exact wanted_zero (hr21.env.same rfl rfl rfl rfl) rfl (by simp)) rfl (callable 13 Try.func13) (same_ok w21 v18 v20 _ _ hX21.rd hY21 (by omega)) ?_
  rintro e22 w22 ⟨rfl, hb22⟩
  refine ⟨_, rfl, ?_⟩
  have h22 := hr21.ret hb22 94 (.v (.bool (decide (giveL L f t o e = giveL L f t o e)))) rfl _ (hr21.all.below hb22) (by simp) rfl
  have hS22 := hS21.below hb22
  have hX22 := hX21.below hb22
  obtain ⟨ad18, cp18, rfl⟩ := hX22.slice
  refine seg cfg7_ok mixed PanicFree.body 1000 [false] [(96, false)] h22.rebase (by first | trivial | exact HpRep.nil | assumption) (by kernel_rfl) fun s_ hs_ => ?_
  simp (maxSteps := 10000000) [SX.vc, SX.stop, SX.contS, SX.contB, SX.contW, SX.contR, SX.contD, SX.sxStep, SX.stepPure, SX.stepNew, SX.stepStore, SX.stepKeep, SX.guardIx, SX.evOp, SX.opd, SX.opds, SX.optOpd, SX.look, SX.putS, SX.gobs, SX.AllP, SX.leave, SX.lookC, SX.lookB, SX.lookT, SX.lookN, SX.findK, SX.evBuiltin, SX.ints, SX.foldI, SX.evBin, SX.evInt, SX.evStr, SX.evEq, SX.arith, SX.evLoad, SX.shapeUp, SX.evFieldAddr, SX.evField, SX.evIndexAddr, SX.evIndex, SX.evFill, SX.evBuild, SX.szs, SX.cellsV, SX.evNew, SX.evStore, SX.spliceL, SX.SV.cells, SX.evConv, SX.evSlice, SX.bnd, SX.evNil, SX.evUn, SX.evPick, SX.pickOpd, SX.popTo, SX.cnd, SX.env0, SX.TD.isAgg, SX.TD.isIface, SX.tails, SX.NotAgg, SX.evLookup, SX.evConvH, SX.evPtrEq, SX.isCells, SX.thaw, SX.frz, SX.fixB, SX.rootIx, SX.Froz, SX.frzStep, SX.fork, Go.Value.cells, Go.undef, cfg7]
  refine ⟨by (unfold SX.Ob; first | trivial | omega | ((try simp only [SX.inK]); (try simp [SX.den, SX.IsU8, SX.AllP, *]); (try omega))), ?_⟩
  intro a23 w23 hr23' _
  have hr23 := h22.unbase hr23'
  have hS23 := hS22.keep hr23'.keeps (by simp [frameAt, mutB])
  have hX23 := hX22.keep hr23'.keeps (by simp [frameAt, mutB])
  have z4w : w4.heap.size ≤ w17.heap.size := Nat.le_trans hr5'.keeps.size (Nat.le_trans hb6.size (Nat.le_trans hr7'.keeps.size (Nat.le_trans hb8.size (Nat.le_trans hr9'.keeps.size (Nat.le_trans hb10.size (Nat.le_trans hr11'.keeps.size (Nat.le_trans hb12.size (Nat.le_trans hr13'.keeps.size (Nat.le_trans hb14.size (Nat.le_trans hr15'.keeps.size (Nat.le_trans hb16.size hr17'.keeps.size)))))))))))
  have z17 : w.heap.size ≤ w17.heap.size := hr17.keeps.size
  obtain ⟨GL, hGL⟩ : ∃ GL, giveL L f t o e = GL := ⟨_, rfl⟩
  rw [hGL] at hr23 hX23 l3
  have hS23' := hS23.mono (P' := fun x => w.heap.size ≤ x ∧ x < w17.heap.size) fun x _ h => ⟨h.1, by omega⟩
  refine post_loop (WLoop w w17 (.slice ad18 GL.length cp18) (.slice ad L.length cp) Vw L o GL.length) GL.length ⟨0, GL, rfl, by omega, rfl, hX23, hS23', hr23.re (by simp [envTo, SX.look, den]) trivial rfl rfl⟩ ?_
  rintro m a24 w24 ⟨k, M, rfl, hk, hMl, hO24, hS24, hr24⟩
  by_cases hlt : k < GL.length
  · obtain ⟨b, N, cap, u, row, hP', hv', hc0, hc1, hc2, hrep', hrow⟩ := hO24.opn (show k < M.length by omega)
    rw [hMl] at hv'
    cases hv'
    obtain ⟨y, hy⟩ : ∃ y, nth spn0 M k = y := ⟨_, rfl⟩
    have hrk : row k = [.v (.int .i64 y.fr), .v (.int .i64 y.to), .v (.int .i64 y.ow), .v (.int .i64 y.ep)] := by rw [hrow k (by omega), hy]; rfl
    have hkN : k < N := by omega
    have h25 := (hr24.top 15 (.sl 0 b 0 0 GL.length cp18 4) rfl (by simp [den])).see [(b, true, .arr 0 N row 4 u (0, 0))] ⟨⟨hrep', fun _ => .inl (Nat.le_trans z17 hP'), by simp⟩, trivial⟩
    refine seg cfg7_ok mixed PanicFree.body 1000 [true] [] h25.rebase (by first | trivial | exact HpRep.nil | assumption) (by kernel_rfl) fun s_ hs_ => ?_
    simp (maxSteps := 10000000) [SX.vc, SX.stop, SX.contS, SX.contB, SX.contW, SX.contR, SX.contD, SX.sxStep, SX.stepPure, SX.stepNew, SX.stepStore, SX.stepKeep, SX.guardIx, SX.evOp, SX.opd, SX.opds, SX.optOpd, SX.look, SX.putS, SX.gobs, SX.AllP, SX.leave, SX.lookC, SX.lookB, SX.lookT, SX.lookN, SX.findK, SX.evBuiltin, SX.ints, SX.foldI, SX.evBin, SX.evInt, SX.evStr, SX.evEq, SX.arith, SX.evLoad, SX.shapeUp, SX.evFieldAddr, SX.evField, SX.evIndexAddr, SX.evIndex, SX.evFill, SX.evBuild, SX.szs, SX.cellsV, SX.evNew, SX.evStore, SX.spliceL, SX.SV.cells, SX.evConv, SX.evSlice, SX.bnd, SX.evNil, SX.evUn, SX.evPick, SX.pickOpd, SX.popTo, SX.cnd, SX.env0, SX.TD.isAgg, SX.TD.isIface, SX.tails, SX.NotAgg, SX.evLookup, SX.evConvH, SX.evPtrEq, SX.isCells, SX.thaw, SX.frz, SX.fixB, SX.rootIx, SX.Froz, SX.frzStep, SX.fork, Go.Value.cells, Go.undef, cfg7, hrk]
    refine ⟨by (unfold SX.Ob; first | trivial | omega | ((try simp only [SX.inK]); (try simp [SX.den, SX.IsU8, SX.AllP, *]); (try omega))), ?_⟩
    intro a26 w26 hr26' _
    have hr26 := h25.unbase hr26'
    have hlen2 : (M.set k { y with ow := 9 }).length = GL.length := by simp [hMl]
    have hO26 : OwP (fun z => w17.heap.size ≤ z) w26 (.slice (some ⟨b, 0, none⟩) GL.length cp18) (M.set k { y with ow := 9 }) := .inr ⟨b, N, cp18, u, _, hP', by rw [hlen2], hc0, by omega, hc2, hr26.all.1.1, fun j hj => (by
      simp only [List.length_set] at hj
      unfold setRow
      by_cases hjk : j = k
      · subst hjk
        rw [if_pos rfl, nth_lt (by simpa using hj)]
        simp [spnC]
      · rw [if_neg hjk, hrow j hj, nth_lt hj, nth_lt (by simpa using hj), List.getElem_set_ne (by omega)])⟩
    exact post_rnd (GL.length - (k + 1)) (by omega) ⟨k + 1, _, rfl, hlt, hlen2, hO26, hS24.keep hr26'.keeps (by simp [frameAt, mutB]; omega), hr26.re (by simp [envTo, SX.look, den]) trivial rfl rfl⟩
  · obtain rfl : k = GL.length := by omega
    refine seg cfg7_ok mixed PanicFree.body 1000 [false] [] hr24.rebase (by first | trivial | exact HpRep.nil | assumption) (by kernel_rfl) fun s_ hs_ => ?_
    simp (maxSteps := 10000000) [SX.vc, SX.stop, SX.contS, SX.contB, SX.contW, SX.contR, SX.contD, SX.sxStep, SX.stepPure, SX.stepNew, SX.stepStore, SX.stepKeep, SX.guardIx, SX.evOp, SX.opd, SX.opds, SX.optOpd, SX.look, SX.putS, SX.gobs, SX.AllP, SX.leave, SX.lookC, SX.lookB, SX.lookT, SX.lookN, SX.findK, SX.evBuiltin, SX.ints, SX.foldI, SX.evBin, SX.evInt, SX.evStr, SX.evEq, SX.arith, SX.evLoad, SX.shapeUp, SX.evFieldAddr, SX.evField, SX.evIndexAddr, SX.evIndex, SX.evFill, SX.evBuild, SX.szs, SX.cellsV, SX.evNew, SX.evStore, SX.spliceL, SX.SV.cells, SX.evConv, SX.evSlice, SX.bnd, SX.evNil, SX.evUn, SX.evPick, SX.pickOpd, SX.popTo, SX.cnd, SX.env0, SX.TD.isAgg, SX.TD.isIface, SX.tails, SX.NotAgg, SX.evLookup, SX.evConvH, SX.evPtrEq, SX.isCells, SX.thaw, SX.frz, SX.fixB, SX.rootIx, SX.Froz, SX.frzStep, SX.fork, Go.Value.cells, Go.undef, cfg7]
    refine ⟨by (unfold SX.Ob; first | trivial | omega | ((try simp only [SX.inK]); (try simp [SX.den, SX.IsU8, SX.AllP, *]); (try omega))), ?_⟩
    intro a25 w25 hr25' _
    have hr25 := hr24.unbase hr25'
    have hS25 := hS24.keep hr25'.keeps (by simp [frameAt, mutB])
    refine post_call 17 [.v (.slice ad L.length cp), .v (.int .i64 o)] hr25 (by first | exact wanted_none rfl | exact wanted_zero (hr25.env.same rfl rfl rfl rfl) rfl (by simp)) rfl (callable 17 Try.func17) (Take_ok w25 _ L o (hL.below hr25.keeps.toBelow) (by omega)) ?_
    rintro e26 w26 ⟨v26, v26', rfl, hO26, hO26', hb26⟩
    refine ⟨_, rfl, ?_⟩
    have h26 := hr25.ret hb26 114 (.tu [.v v26, .v v26', .v (.int .i64 (takeE L o))]) rfl _ (hr25.all.below hb26) (by simp) rfl
    have hS26 := hS25.below hb26
    refine seg cfg7_ok mixed PanicFree.body 1000 [] [] h26.rebase (by first | trivial | exact HpRep.nil | assumption) (by kernel_rfl) fun s_ hs_ => ?_
    simp (maxSteps := 10000000) [SX.vc, SX.stop, SX.contS, SX.contB, SX.contW, SX.contR, SX.contD, SX.sxStep, SX.stepPure, SX.stepNew, SX.stepStore, SX.stepKeep, SX.guardIx, SX.evOp, SX.opd, SX.opds, SX.optOpd, SX.look, SX.putS, SX.gobs, SX.AllP, SX.leave, SX.lookC, SX.lookB, SX.lookT, SX.lookN, SX.findK, SX.evBuiltin, SX.ints, SX.foldI, SX.evBin, SX.evInt, SX.evStr, SX.evEq, SX.arith, SX.evLoad, SX.shapeUp, SX.evFieldAddr, SX.evField, SX.evIndexAddr, SX.evIndex, SX.evFill, SX.evBuild, SX.szs, SX.cellsV, SX.evNew, SX.evStore, SX.spliceL, SX.SV.cells, SX.evConv, SX.evSlice, SX.bnd, SX.evNil, SX.evUn, SX.evPick, SX.pickOpd, SX.popTo, SX.cnd, SX.env0, SX.TD.isAgg, SX.TD.isIface, SX.tails, SX.NotAgg, SX.evLookup, SX.evConvH, SX.evPtrEq, SX.isCells, SX.thaw, SX.frz, SX.fixB, SX.rootIx, SX.Froz, SX.frzStep, SX.fork, Go.Value.cells, Go.undef, cfg7]
    refine ⟨by (unfold SX.Ob; first | trivial | omega | ((try simp only [SX.inK]); (try simp [SX.den, SX.IsU8, SX.AllP, *]); (try omega))), ?_⟩
    intro a27 w27 hr27' _
    have hr27 := h26.unbase hr27'
    have hS27 := hS26.keep hr27'.keeps (by simp [frameAt, mutB])
    have hX27 := hO26.keep hr27'.keeps (by simp [frameAt, mutB])
    have hX27' := hO26'.keep hr27'.keeps (by simp [frameAt, mutB])
    refine post_call 22 [.v (.slice ad L.length cp), .v (.int .i64 o)] hr27 (by first | exact wanted_none rfl | exact wanted_zero (hr27.env.same rfl rfl rfl rfl) rfl (by simp)) rfl (callable 22 Try.func22) (rTake_ok w27 _ L o (hL.below hr27.keeps.toBelow) (by omega) chkP_free) ?_
    rintro e28 w28 ⟨v28, v28', rfl, hO28, hO28', hb28⟩
    refine ⟨_, rfl, ?_⟩
    have h28 := hr27.ret hb28 121 (.tu [.v v28, .v v28', .v (.int .i64 (takeE L o))]) rfl _ (hr27.all.below hb28) (by simp) rfl
    have hS28 := hS27.below hb28
    have hX28 := hX27.below hb28
    have hX28' := hX27'.below hb28
    refine seg cfg7_ok mixed PanicFree.body 1000 [] [(126, true)] h28.rebase (by first | trivial | exact HpRep.nil | assumption) (by kernel_rfl) fun s_ hs_ => ?_
    simp (maxSteps := 10000000) [SX.vc, SX.stop, SX.contS, SX.contB, SX.contW, SX.contR, SX.contD, SX.sxStep, SX.stepPure, SX.stepNew, SX.stepStore, SX.stepKeep, SX.guardIx, SX.evOp, SX.opd, SX.opds, SX.optOpd, SX.look, SX.putS, SX.gobs, SX.AllP, SX.leave, SX.lookC, SX.lookB, SX.lookT, SX.lookN, SX.findK, SX.evBuiltin, SX.ints, SX.foldI, SX.evBin, SX.evInt, SX.evStr, SX.evEq, SX.arith, SX.evLoad, SX.shapeUp, SX.evFieldAddr, SX.evField, SX.evIndexAddr, SX.evIndex, SX.evFill, SX.evBuild, SX.szs, SX.cellsV, SX.evNew, SX.evStore, SX.spliceL, SX.SV.cells, SX.evConv, SX.evSlice, SX.bnd, SX.evNil, SX.evUn, SX.evPick, SX.pickOpd, SX.popTo, SX.cnd, SX.env0, SX.TD.isAgg, SX.TD.isIface, SX.tails, SX.NotAgg, SX.evLookup, SX.evConvH, SX.evPtrEq, SX.isCells, SX.thaw, SX.frz, SX.fixB, SX.rootIx, SX.Froz, SX.frzStep, SX.fork, Go.Value.cells, Go.undef, cfg7]
    refine ⟨by (unfold SX.Ob; first | trivial | omega | ((try simp only [SX.inK]); (try simp [SX.den, SX.IsU8, SX.AllP, *]); (try omega))), ?_⟩
    intro a29 w29 hr29' _
    have hr29 := h28.unbase hr29'
    have hS29 := hS28.keep hr29'.keeps (by simp [frameAt, mutB])
    have hX29 := hX28.keep hr29'.keeps (by simp [frameAt, mutB])
    have hX29' := hX28'.keep hr29'.keeps (by simp [frameAt, mutB])
    have hY29 := hO28.keep hr29'.keeps (by simp [frameAt, mutB])
    have hY29' := hO28'.keep hr29'.keeps (by simp [frameAt, mutB])
    have l4 := takeL_len L o
    have l5 := takeW_len L o
    refine post_call 13 [.v v26, .v v28] hr29 (by first | exact wanted_none rfl | exact wanted_zero (hr29.env.same rfl rfl rfl rfl) rfl (by simp)) rfl (callable 13 Try.func13) (same_ok w29 v26 v28 _ _ hX29 hY29 (by omega)) ?_
    rintro e30 w30 ⟨rfl, hb30⟩
    refine ⟨_, rfl, ?_⟩
    have h30 := hr29.ret hb30 129 (.v (.bool (decide (takeL L o = takeL L o)))) rfl _ (hr29.all.below hb30) (by simp) rfl
    have hS30 := hS29.below hb30
    have hX30' := hX29'.below hb30
    have hY30' := hY29'.below hb30
    refine seg cfg7_ok mixed PanicFree.body 1000 [] [(126, true), (131, true)] h30.rebase (by first | trivial | exact HpRep.nil | assumption) (by kernel_rfl) fun s_ hs_ => ?_
    simp (maxSteps := 10000000) [SX.vc, SX.stop, SX.contS, SX.contB, SX.contW, SX.contR, SX.contD, SX.sxStep, SX.stepPure, SX.stepNew, SX.stepStore, SX.stepKeep, SX.guardIx, SX.evOp, SX.opd, SX.opds, SX.optOpd, SX.look, SX.putS, SX.gobs, SX.AllP, SX.leave, SX.lookC, SX.lookB, SX.lookT, SX.lookN, SX.findK, SX.evBuiltin, SX.ints, SX.foldI, SX.evBin, SX.evInt, SX.evStr, SX.evEq, SX.arith, SX.evLoad, SX.shapeUp, SX.evFieldAddr, SX.evField, SX.evIndexAddr, SX.evIndex, SX.evFill, SX.evBuild, SX.szs, SX.cellsV, SX.evNew, SX.evStore, SX.spliceL, SX.SV.cells, SX.evConv, SX.evSlice, SX.bnd, SX.evNil, SX.evUn, SX.evPick, SX.pickOpd, SX.popTo, SX.cnd, SX.env0, SX.TD.isAgg, SX.TD.isIface, SX.tails, SX.NotAgg, SX.evLookup, SX.evConvH, SX.evPtrEq, SX.isCells, SX.thaw, SX.frz, SX.fixB, SX.rootIx, SX.Froz, SX.frzStep, SX.fork, Go.Value.cells, Go.undef, cfg7]
    refine ⟨by (unfold SX.Ob; first | trivial | omega | ((try simp only [SX.inK]); (try simp [SX.den, SX.IsU8, SX.AllP, *]); (try omega))), ?_⟩
    intro a31 w31 hr31' _
    have hr31 := h30.unbase hr31'
    have hS31 := hS30.keep hr31'.keeps (by simp [frameAt, mutB])
    have hX31' := hX30'.keep hr31'.keeps (by simp [frameAt, mutB])
    have hY31' := hY30'.keep hr31'.keeps (by simp [frameAt, mutB])
    refine post_call 13 [.v v26', .v v28'] hr31 (by first | exact wanted_none rfl | exact wanted_zero (hr31.env.same rfl rfl rfl rfl) rfl (by simp)) rfl (callable 13 Try.func13) (same_ok w31 v26' v28' _ _ hX31' hY31' (by omega)) ?_
    rintro e32 w32 ⟨rfl, hb32⟩
    refine ⟨_, rfl, ?_⟩
    have h32 := hr31.ret hb32 134 (.v (.bool (decide (takeW L o = takeW L o)))) rfl _ (hr31.all.below hb32) (by simp) rfl
    have hS32 := hS31.below hb32
    refine seg cfg7_ok mixed PanicFree.body 1000 [] [(126, true), (131, true), (136, true), (141, true)] h32.rebase (by first | trivial | exact HpRep.nil | assumption) (by kernel_rfl) fun s_ hs_ => ?_
    simp (maxSteps := 10000000) [SX.vc, SX.stop, SX.contS, SX.contB, SX.contW, SX.contR, SX.contD, SX.sxStep, SX.stepPure, SX.stepNew, SX.stepStore, SX.stepKeep, SX.guardIx, SX.evOp, SX.opd, SX.opds, SX.optOpd, SX.look, SX.putS, SX.gobs, SX.AllP, SX.leave, SX.lookC, SX.lookB, SX.lookT, SX.lookN, SX.findK, SX.evBuiltin, SX.ints, SX.foldI, SX.evBin, SX.evInt, SX.evStr, SX.evEq, SX.arith, SX.evLoad, SX.shapeUp, SX.evFieldAddr, SX.evField, SX.evIndexAddr, SX.evIndex, SX.evFill, SX.evBuild, SX.szs, SX.cellsV, SX.evNew, SX.evStore, SX.spliceL, SX.SV.cells, SX.evConv, SX.evSlice, SX.bnd, SX.evNil, SX.evUn, SX.evPick, SX.pickOpd, SX.popTo, SX.cnd, SX.env0, SX.TD.isAgg, SX.TD.isIface, SX.tails, SX.NotAgg, SX.evLookup, SX.evConvH, SX.evPtrEq, SX.isCells, SX.thaw, SX.frz, SX.fixB, SX.rootIx, SX.Froz, SX.frzStep, SX.fork, Go.Value.cells, Go.undef, cfg7]
    refine ⟨by (unfold SX.Ob; first | trivial | omega | ((try simp only [SX.inK]); (try simp [SX.den, SX.IsU8, SX.AllP, *]); (try omega))), ?_⟩
    intro a33 w33 hr33' _
    have hr33 := h32.unbase hr33'
    have hS33 := hS32.keep hr33'.keeps (by simp [frameAt, mutB])
    refine post_call 13 [.v (.slice ad L.length cp), .v Vw] hr33 (by first | exact wanted_none rfl | exact wanted_zero (hr33.env.same rfl rfl rfl rfl) rfl (by simp)) rfl (callable 13 Try.func13) (same_ok w33 _ Vw L L (hL.below hr33.keeps.toBelow) hS33 (by omega)) ?_
    rintro e34 w34 ⟨rfl, hb34⟩
    refine ⟨_, rfl, ?_⟩
    have h34 := hr33.ret hb34 144 (.v (.bool (decide (L = L)))) rfl _ (hr33.all.below hb34) (by simp) rfl
    refine seg cfg7_ok mixed PanicFree.body 1000 [] [(126, true), (131, true), (136, true), (141, true)] h34 (by first | trivial | exact HpRep.nil | assumption) (by kernel_rfl) fun s_ hs_ => ?_
    simp (maxSteps := 10000000) [SX.vc, SX.stop, SX.contS, SX.contB, SX.contW, SX.contR, SX.contD, SX.sxStep, SX.stepPure, SX.stepNew, SX.stepStore, SX.stepKeep, SX.guardIx, SX.evOp, SX.opd, SX.opds, SX.optOpd, SX.look, SX.putS, SX.gobs, SX.AllP, SX.leave, SX.lookC, SX.lookB, SX.lookT, SX.lookN, SX.findK, SX.evBuiltin, SX.ints, SX.foldI, SX.evBin, SX.evInt, SX.evStr, SX.evEq, SX.arith, SX.evLoad, SX.shapeUp, SX.evFieldAddr, SX.evField, SX.evIndexAddr, SX.evIndex, SX.evFill, SX.evBuild, SX.szs, SX.cellsV, SX.evNew, SX.evStore, SX.spliceL, SX.SV.cells, SX.evConv, SX.evSlice, SX.bnd, SX.evNil, SX.evUn, SX.evPick, SX.pickOpd, SX.popTo, SX.cnd, SX.env0, SX.TD.isAgg, SX.TD.isIface, SX.tails, SX.NotAgg, SX.evLookup, SX.evConvH, SX.evPtrEq, SX.isCells, SX.thaw, SX.frz, SX.fixB, SX.rootIx, SX.Froz, SX.frzStep, SX.fork, Go.Value.cells, Go.undef, cfg7]
    refine ⟨by (unfold SX.Ob; first | trivial | omega | ((try simp only [SX.inK]); (try simp [SX.den, SX.IsU8, SX.AllP, *]); (try omega))), ?_⟩
    intro a35 w35 hr35 _
    exact post_retn (end1 hr35 rfl rfl ⟨by simp [den], hr35.keeps.toBelow⟩).1
end Go.Proofs
