/- Extents: Cut, Put, Same; whether lists are short. -/
import Derived.Test.YtpbihcfmjnidbaaEM
namespace Go.Proofs
set_option linter.unusedVariables false
set_option linter.unusedSimpArgs false
open Go Go.SX Go.RowKit

def CutR (w : World) (L : List Ext) (lba n : Int) (e : Ending) (w' : World) : Prop :=
  (Chk L ∧ Blocks lba n ∧ ∃ (i k : Nat) (v' : Value), e = .returned (den (.tu [.v v', .v (.int .i64 0)])) ∧ PartIK L lba n i k ∧ OwE (fun x => w.heap.size ≤ x) w' v' (replL L lba n [] i k) ∧ Below w.heap.size w w') ∨
  (¬ (Chk L ∧ Blocks lba n) ∧ e = .returned (den (.tu [.v (.slice none 0 0), .v (.int .i64 1)])) ∧ Below w.heap.size w w')

set_option maxRecDepth 100000 in
set_option maxHeartbeats 8000000 in
/-- Cut. -/
theorem Cut_ok {P : Nat → Prop} (w : World) (v : Value) (L : List Ext) (lba n : Int) (hL : RdE P w v L) (hn : L.length ≤ 100000) : Calls Try.prog 14 (denL [.v v, .v (.int .i64 lba), .v (.int .i64 n)]).toArray w (CutR w L lba n) := by
  refine enter (F := frame0 w) Try.func14 rfl [.v v, .v (.int .i64 lba), .v (.int .i64 n)] [] (by simp [Try.f14]) trivial (keeps0 w) fun a hr => ?_
  refine seg cfg14_ok mixed PanicFree.body 1000 [] [] hr (by first | trivial | exact HpRep.nil | assumption) (by kernel_rfl) fun s_ hs_ => ?_
  simp (maxSteps := 10000000) [SX.vc, SX.stop, SX.contS, SX.contB, SX.contW, SX.contR, SX.contD, SX.sxStep, SX.stepPure, SX.stepNew, SX.stepStore, SX.stepKeep, SX.guardIx, SX.evOp, SX.opd, SX.opds, SX.optOpd, SX.look, SX.putS, SX.gobs, SX.AllP, SX.leave, SX.lookC, SX.lookB, SX.lookT, SX.lookN, SX.findK, SX.evBuiltin, SX.ints, SX.foldI, SX.evBin, SX.evInt, SX.evStr, SX.evEq, SX.arith, SX.evLoad, SX.shapeUp, SX.evFieldAddr, SX.evField, SX.evIndexAddr, SX.evIndex, SX.evFill, SX.evBuild, SX.szs, SX.cellsV, SX.evNew, SX.evStore, SX.spliceL, SX.SV.cells, SX.evConv, SX.evSlice, SX.bnd, SX.evNil, SX.evUn, SX.evPick, SX.pickOpd, SX.popTo, SX.cnd, SX.env0, SX.TD.isAgg, SX.TD.isIface, SX.tails, SX.NotAgg, SX.evLookup, SX.evConvH, SX.evPtrEq, SX.isCells, SX.thaw, SX.frz, SX.fixB, SX.rootIx, SX.Froz, SX.frzStep, SX.fork, Go.Value.cells, Go.undef, cfg14, Try.f14]
  refine ⟨by (unfold SX.Ob; first | trivial | omega | ((try simp only [SX.inK]); (try simp [SX.den, SX.IsU8, SX.AllP, *]); (try omega))), ?_⟩
  intro a1 w1 hr1 _
  refine post_call 22 [.v v] hr1 (by first | exact wanted_none rfl | exact wanted_zero (hr1.env.same rfl rfl rfl rfl) rfl (by simp)) rfl (callable 22 Try.func22) (check_ok w1 v L (hL.below hr1.keeps.toBelow) (by omega)) ?_
  rintro e2 w2 ⟨rfl, hb2⟩
  refine ⟨_, rfl, ?_⟩
  have h2 := hr1.ret hb2 9 (.v (.int .i64 (chkE L))) rfl _ (hr1.all.below hb2) (by simp) rfl
  by_cases hC : Chk L
  rotate_left
  · have hc : chkE L = 1 := if_neg hC
    refine seg cfg14_ok mixed PanicFree.body 1000 [true] [(11, true)] h2 (by first | trivial | exact HpRep.nil | assumption) (by kernel_rfl) fun s_ hs_ => ?_
    simp (maxSteps := 10000000) [SX.vc, SX.stop, SX.contS, SX.contB, SX.contW, SX.contR, SX.contD, SX.sxStep, SX.stepPure, SX.stepNew, SX.stepStore, SX.stepKeep, SX.guardIx, SX.evOp, SX.opd, SX.opds, SX.optOpd, SX.look, SX.putS, SX.gobs, SX.AllP, SX.leave, SX.lookC, SX.lookB, SX.lookT, SX.lookN, SX.findK, SX.evBuiltin, SX.ints, SX.foldI, SX.evBin, SX.evInt, SX.evStr, SX.evEq, SX.arith, SX.evLoad, SX.shapeUp, SX.evFieldAddr, SX.evField, SX.evIndexAddr, SX.evIndex, SX.evFill, SX.evBuild, SX.szs, SX.cellsV, SX.evNew, SX.evStore, SX.spliceL, SX.SV.cells, SX.evConv, SX.evSlice, SX.bnd, SX.evNil, SX.evUn, SX.evPick, SX.pickOpd, SX.popTo, SX.cnd, SX.env0, SX.TD.isAgg, SX.TD.isIface, SX.tails, SX.NotAgg, SX.evLookup, SX.evConvH, SX.evPtrEq, SX.isCells, SX.thaw, SX.frz, SX.fixB, SX.rootIx, SX.Froz, SX.frzStep, SX.fork, Go.Value.cells, Go.undef, cfg14, hc]
    refine ⟨by (unfold SX.Ob; first | trivial | omega | ((try simp only [SX.inK]); (try simp [SX.den, SX.IsU8, SX.AllP, *]); (try omega))), ?_⟩
    intro a3 w3 hr3 _
    exact post_retn (end2 hr3 rfl rfl rfl (.inr ⟨fun h => hC h.1, by simp [den, denL], hr3.keeps.toBelow⟩)).1
  have hc : chkE L = 0 := if_pos hC
  refine seg cfg14_ok mixed PanicFree.body 1000 [] [(11, false)] h2 (by first | trivial | exact HpRep.nil | assumption) (by kernel_rfl) fun s_ hs_ => ?_
  simp (maxSteps := 10000000) [SX.vc, SX.stop, SX.contS, SX.contB, SX.contW, SX.contR, SX.contD, SX.sxStep, SX.stepPure, SX.stepNew, SX.stepStore, SX.stepKeep, SX.guardIx, SX.evOp, SX.opd, SX.opds, SX.optOpd, SX.look, SX.putS, SX.gobs, SX.AllP, SX.leave, SX.lookC, SX.lookB, SX.lookT, SX.lookN, SX.findK, SX.evBuiltin, SX.ints, SX.foldI, SX.evBin, SX.evInt, SX.evStr, SX.evEq, SX.arith, SX.evLoad, SX.shapeUp, SX.evFieldAddr, SX.evField, SX.evIndexAddr, SX.evIndex, SX.evFill, SX.evBuild, SX.szs, SX.cellsV, SX.evNew, SX.evStore, SX.spliceL, SX.SV.cells, SX.evConv, SX.evSlice, SX.bnd, SX.evNil, SX.evUn, SX.evPick, SX.pickOpd, SX.popTo, SX.cnd, SX.env0, SX.TD.isAgg, SX.TD.isIface, SX.tails, SX.NotAgg, SX.evLookup, SX.evConvH, SX.evPtrEq, SX.isCells, SX.thaw, SX.frz, SX.fixB, SX.rootIx, SX.Froz, SX.frzStep, SX.fork, Go.Value.cells, Go.undef, cfg14, hc]
  refine ⟨by (unfold SX.Ob; first | trivial | omega | ((try simp only [SX.inK]); (try simp [SX.den, SX.IsU8, SX.AllP, *]); (try omega))), ?_⟩
  intro a3 w3 hr3 _
  refine post_call 27 [.v (.int .i64 lba), .v (.int .i64 n)] hr3 (by first | exact wanted_none rfl | exact wanted_zero (hr3.env.same rfl rfl rfl rfl) rfl (by simp)) rfl (callable 27 Try.func27) (blocks_ok w3 lba n) ?_
  rintro e4 w4 ⟨rfl, hb4⟩
  refine ⟨_, rfl, ?_⟩
  have h4 := hr3.ret hb4 14 (.v (.bool (decide (Blocks lba n)))) rfl _ (hr3.all.below hb4) (by simp) rfl
  by_cases hB : Blocks lba n
  rotate_left
  · refine seg cfg14_ok mixed PanicFree.body 1000 [true] [(11, false)] h4 (by first | trivial | exact HpRep.nil | assumption) (by kernel_rfl) fun s_ hs_ => ?_
    simp (maxSteps := 10000000) [SX.vc, SX.stop, SX.contS, SX.contB, SX.contW, SX.contR, SX.contD, SX.sxStep, SX.stepPure, SX.stepNew, SX.stepStore, SX.stepKeep, SX.guardIx, SX.evOp, SX.opd, SX.opds, SX.optOpd, SX.look, SX.putS, SX.gobs, SX.AllP, SX.leave, SX.lookC, SX.lookB, SX.lookT, SX.lookN, SX.findK, SX.evBuiltin, SX.ints, SX.foldI, SX.evBin, SX.evInt, SX.evStr, SX.evEq, SX.arith, SX.evLoad, SX.shapeUp, SX.evFieldAddr, SX.evField, SX.evIndexAddr, SX.evIndex, SX.evFill, SX.evBuild, SX.szs, SX.cellsV, SX.evNew, SX.evStore, SX.spliceL, SX.SV.cells, SX.evConv, SX.evSlice, SX.bnd, SX.evNil, SX.evUn, SX.evPick, SX.pickOpd, SX.popTo, SX.cnd, SX.env0, SX.TD.isAgg, SX.TD.isIface, SX.tails, SX.NotAgg, SX.evLookup, SX.evConvH, SX.evPtrEq, SX.isCells, SX.thaw, SX.frz, SX.fixB, SX.rootIx, SX.Froz, SX.frzStep, SX.fork, Go.Value.cells, Go.undef, cfg14, hB]
    refine ⟨by (unfold SX.Ob; first | trivial | omega | ((try simp only [SX.inK]); (try simp [SX.den, SX.IsU8, SX.AllP, *]); (try omega))), ?_⟩
    intro a5 w5 hr5 _
    exact post_retn (end2 hr5 rfl rfl rfl (.inr ⟨fun h => hB h.2, by simp [den, denL], hr5.keeps.toBelow⟩)).1
  refine seg cfg14_ok mixed PanicFree.body 1000 [false] [(11, false)] h4 (by first | trivial | exact HpRep.nil | assumption) (by kernel_rfl) fun s_ hs_ => ?_
  simp (maxSteps := 10000000) [SX.vc, SX.stop, SX.contS, SX.contB, SX.contW, SX.contR, SX.contD, SX.sxStep, SX.stepPure, SX.stepNew, SX.stepStore, SX.stepKeep, SX.guardIx, SX.evOp, SX.opd, SX.opds, SX.optOpd, SX.look, SX.putS, SX.gobs, SX.AllP, SX.leave, SX.lookC, SX.lookB, SX.lookT, SX.lookN, SX.findK, SX.evBuiltin, SX.ints, SX.foldI, SX.evBin, SX.evInt, SX.evStr, SX.evEq, SX.arith, SX.evLoad, SX.shapeUp, SX.evFieldAddr, SX.evField, SX.evIndexAddr, SX.evIndex, SX.evFill, SX.evBuild, SX.szs, SX.cellsV, SX.evNew, SX.evStore, SX.spliceL, SX.SV.cells, SX.evConv, SX.evSlice, SX.bnd, SX.evNil, SX.evUn, SX.evPick, SX.pickOpd, SX.popTo, SX.cnd, SX.env0, SX.TD.isAgg, SX.TD.isIface, SX.tails, SX.NotAgg, SX.evLookup, SX.evConvH, SX.evPtrEq, SX.isCells, SX.thaw, SX.frz, SX.fixB, SX.rootIx, SX.Froz, SX.frzStep, SX.fork, Go.Value.cells, Go.undef, cfg14, hB]
  refine ⟨by (unfold SX.Ob; first | trivial | omega | ((try simp only [SX.inK]); (try simp [SX.den, SX.IsU8, SX.AllP, *]); (try omega))), ?_⟩
  intro a5 w5 hr5 _
  refine post_call 26 [.v v, .v (.int .i64 lba), .v (.int .i64 n), .v (.slice none 0 0)] hr5 (by first | exact wanted_none rfl | exact wanted_zero (hr5.env.same rfl rfl rfl rfl) rfl (by simp)) rfl (callable 26 Try.func26) (repl_ok (P' := fun _ => True) w5 v (.slice none 0 0) L [] lba n (hL.below hr5.keeps.toBelow) (.inl ⟨rfl, _, _, rfl⟩) hC hB hn (by simp)) ?_
  rintro e6 w6 ⟨i, k, v', rfl, hIK, hO, hb6⟩
  refine ⟨_, rfl, ?_⟩
  have h6 := hr5.ret hb6 20 (.v v') rfl _ (hr5.all.below hb6) (by simp) rfl
  have z5 : w.heap.size ≤ w5.heap.size := hr5.keeps.size
  refine seg cfg14_ok mixed PanicFree.body 1000 [] [] h6.rebase (by first | trivial | exact HpRep.nil | assumption) (by kernel_rfl) fun s_ hs_ => ?_
  simp (maxSteps := 10000000) [SX.vc, SX.stop, SX.contS, SX.contB, SX.contW, SX.contR, SX.contD, SX.sxStep, SX.stepPure, SX.stepNew, SX.stepStore, SX.stepKeep, SX.guardIx, SX.evOp, SX.opd, SX.opds, SX.optOpd, SX.look, SX.putS, SX.gobs, SX.AllP, SX.leave, SX.lookC, SX.lookB, SX.lookT, SX.lookN, SX.findK, SX.evBuiltin, SX.ints, SX.foldI, SX.evBin, SX.evInt, SX.evStr, SX.evEq, SX.arith, SX.evLoad, SX.shapeUp, SX.evFieldAddr, SX.evField, SX.evIndexAddr, SX.evIndex, SX.evFill, SX.evBuild, SX.szs, SX.cellsV, SX.evNew, SX.evStore, SX.spliceL, SX.SV.cells, SX.evConv, SX.evSlice, SX.bnd, SX.evNil, SX.evUn, SX.evPick, SX.pickOpd, SX.popTo, SX.cnd, SX.env0, SX.TD.isAgg, SX.TD.isIface, SX.tails, SX.NotAgg, SX.evLookup, SX.evConvH, SX.evPtrEq, SX.isCells, SX.thaw, SX.frz, SX.fixB, SX.rootIx, SX.Froz, SX.frzStep, SX.fork, Go.Value.cells, Go.undef, cfg14]
  refine ⟨by (unfold SX.Ob; first | trivial | omega | ((try simp only [SX.inK]); (try simp [SX.den, SX.IsU8, SX.AllP, *]); (try omega))), ?_⟩
  intro a7 w7 hr7' _
  have hr7 := h6.unbase hr7'
  exact post_retn (end2 hr7 rfl rfl rfl (.inl ⟨hC, hB, i, k, v', by simp [den, denL], hIK, (hO.keep hr7'.keeps (by simp [frameAt, mutB])).mono (fun x _ hx => Nat.le_trans z5 hx), hr7.keeps.toBelow⟩)).1

/-- What a list comes to when extents are put into it one by one. -/
inductive PutsTo (L : List Ext) : List Ext → List Ext → Prop
  | nil : PutsTo L [] L
  | snoc {es M : List Ext} {e : Ext} {i k : Nat} : PutsTo L es M → PartIK M e.lba e.n i k → PutsTo L (es ++ [e]) (replL M e.lba e.n [e] i k)

theorem May.with {e : Ext} (h : May e) : With e.lba e.n [e] := .inr ⟨e, rfl, h, rfl, rfl⟩
theorem May.blocks {e : Ext} (h : May e) : Blocks e.lba e.n := by
  unfold May at h
  unfold Blocks
  omega

theorem PutsTo.good {L es M : List Ext} (h : PutsTo L es M) (hL : Chk L) (hes : AllMay es) : Chk M ∧ M.length ≤ L.length + 2 * es.length := by
  induction h with
  | nil => exact ⟨hL, by simp⟩
  | snoc h hp ih =>
    rename_i es M e i k
    obtain ⟨h1, h2⟩ := ih (fun x hx => hes x (by simp [hx]))
    have hM := hes e (by simp)
    refine ⟨repl_chk h1 hM.blocks hp hM.with, ?_⟩
    have := repl_len hp hM.with
    simp only [List.length_append, List.length_cons, List.length_nil]
    omega

theorem PutsTo.has {L es M : List Ext} (h : PutsTo L es M) (hL : Chk L) (hes : AllMay es) (b : Int) (t : Int × Int × Int) :
    Has M b t ↔ match es.reverse.find? (hasB b) with | some e => t = tell b e | none => Has L b t := by
  induction h with
  | nil => simp
  | snoc h hp ih =>
    rename_i es M e i k
    have hes' : AllMay es := fun x hx => hes x (by simp [hx])
    obtain ⟨h1, h2⟩ := h.good hL hes'
    have hM := hes e (by simp)
    rw [repl_has h1 hp hM.with, Has.one, ih hes', List.reverse_append, List.reverse_singleton, List.singleton_append, List.find?_cons]
    by_cases hi : hasB b e = true
    · have hi' := hi
      simp only [hasB, decide_eq_true_eq] at hi'
      simp only [hi]
      constructor
      · rintro (⟨_, _, _, h⟩ | ⟨h, _⟩)
        · exact h.symm
        · exact absurd hi' h
      · intro h
        exact .inl ⟨hi'.1, hi'.2, hi', h.symm⟩
    · have hi' : ¬ (e.lba ≤ b ∧ b < e.lba + e.n) := by simpa [hasB] using hi
      have hi2 : hasB b e = false := by simpa using hi
      simp only [hi2]
      constructor
      · rintro (⟨h1, h2, _⟩ | ⟨_, h⟩)
        · exact absurd ⟨h1, h2⟩ hi'
        · exact h
      · intro h
        exact .inr ⟨hi', h⟩

def PutLoop (w : World) (ves : Value) (L es : List Ext) (m : Nat) (a : Act) (w' : World) : Prop :=
  ∃ (k : Nat) (v : Value) (M : List Ext), m = es.length - k ∧ k ≤ es.length ∧ PutsTo L (es.take k) M ∧ RdE (fun _ => True) w' v M ∧
    RepX (frame0 w) ⟨[(18, 0, .v (.int .i64 k)), (17, 0, .v (.int .i64 es.length)), (16, 0, .v ves), (0, 0, .v v)], [], 0, 0, 37, [], [], []⟩ a w'

def PutR (w : World) (L es : List Ext) (e : Ending) (w' : World) : Prop :=
  (Chk L ∧ AllMay es ∧ ∃ M, PutsTo L es M ∧ Chk M ∧ (((joinE M).length ≤ 10000 ∧ ∃ v', e = .returned (den (.tu [.v v', .v (.int .i64 0)])) ∧ OwE (fun x => w.heap.size ≤ x) w' v' (joinE M)) ∨ (10000 < (joinE M).length ∧ e = .returned (den (.tu [.v (.slice none 0 0), .v (.int .i64 2)])))) ∧ Below w.heap.size w w') ∨
  (¬ (Chk L ∧ AllMay es) ∧ e = .returned (den (.tu [.v (.slice none 0 0), .v (.int .i64 1)])) ∧ Below w.heap.size w w')

set_option maxRecDepth 100000 in
set_option maxHeartbeats 8000000 in
/-- Put. -/
theorem Put_ok {P P' : Nat → Prop} (w : World) (v ves : Value) (L es : List Ext) (hL : RdE P w v L) (hE : RdE P' w ves es) (hn : L.length + 2 * es.length ≤ 50000) : Calls Try.prog 12 (denL [.v v, .v ves]).toArray w (PutR w L es) := by
  obtain ⟨ad, cp, rfl⟩ := hE.slice
  refine enter (F := frame0 w) Try.func12 rfl [.v v, .v (.slice ad es.length cp)] [] (by simp [Try.f12]) trivial (keeps0 w) fun a hr => ?_
  refine seg cfg12_ok mixed PanicFree.body 1000 [] [] hr (by first | trivial | exact HpRep.nil | assumption) (by kernel_rfl) fun s_ hs_ => ?_
  simp (maxSteps := 10000000) [SX.vc, SX.stop, SX.contS, SX.contB, SX.contW, SX.contR, SX.contD, SX.sxStep, SX.stepPure, SX.stepNew, SX.stepStore, SX.stepKeep, SX.guardIx, SX.evOp, SX.opd, SX.opds, SX.optOpd, SX.look, SX.putS, SX.gobs, SX.AllP, SX.leave, SX.lookC, SX.lookB, SX.lookT, SX.lookN, SX.findK, SX.evBuiltin, SX.ints, SX.foldI, SX.evBin, SX.evInt, SX.evStr, SX.evEq, SX.arith, SX.evLoad, SX.shapeUp, SX.evFieldAddr, SX.evField, SX.evIndexAddr, SX.evIndex, SX.evFill, SX.evBuild, SX.szs, SX.cellsV, SX.evNew, SX.evStore, SX.spliceL, SX.SV.cells, SX.evConv, SX.evSlice, SX.bnd, SX.evNil, SX.evUn, SX.evPick, SX.pickOpd, SX.popTo, SX.cnd, SX.env0, SX.TD.isAgg, SX.TD.isIface, SX.tails, SX.NotAgg, SX.evLookup, SX.evConvH, SX.evPtrEq, SX.isCells, SX.thaw, SX.frz, SX.fixB, SX.rootIx, SX.Froz, SX.frzStep, SX.fork, Go.Value.cells, Go.undef, cfg12, Try.f12]
  refine ⟨by (unfold SX.Ob; first | trivial | omega | ((try simp only [SX.inK]); (try simp [SX.den, SX.IsU8, SX.AllP, *]); (try omega))), ?_⟩
  intro a1 w1 hr1 _
  refine post_call 22 [.v v] hr1 (by first | exact wanted_none rfl | exact wanted_zero (hr1.env.same rfl rfl rfl rfl) rfl (by simp)) rfl (callable 22 Try.func22) (check_ok w1 v L (hL.below hr1.keeps.toBelow) (by omega)) ?_
  rintro e2 w2 ⟨rfl, hb2⟩
  refine ⟨_, rfl, ?_⟩
  have h2 := hr1.ret hb2 10 (.v (.int .i64 (chkE L))) rfl _ (hr1.all.below hb2) (by simp) rfl
  by_cases hC : Chk L
  rotate_left
  · have hc : chkE L = 1 := if_neg hC
    refine seg cfg12_ok mixed PanicFree.body 1000 [true] [(12, true)] h2 (by first | trivial | exact HpRep.nil | assumption) (by kernel_rfl) fun s_ hs_ => ?_
    simp (maxSteps := 10000000) [SX.vc, SX.stop, SX.contS, SX.contB, SX.contW, SX.contR, SX.contD, SX.sxStep, SX.stepPure, SX.stepNew, SX.stepStore, SX.stepKeep, SX.guardIx, SX.evOp, SX.opd, SX.opds, SX.optOpd, SX.look, SX.putS, SX.gobs, SX.AllP, SX.leave, SX.lookC, SX.lookB, SX.lookT, SX.lookN, SX.findK, SX.evBuiltin, SX.ints, SX.foldI, SX.evBin, SX.evInt, SX.evStr, SX.evEq, SX.arith, SX.evLoad, SX.shapeUp, SX.evFieldAddr, SX.evField, SX.evIndexAddr, SX.evIndex, SX.evFill, SX.evBuild, SX.szs, SX.cellsV, SX.evNew, SX.evStore, SX.spliceL, SX.SV.cells, SX.evConv, SX.evSlice, SX.bnd, SX.evNil, SX.evUn, SX.evPick, SX.pickOpd, SX.popTo, SX.cnd, SX.env0, SX.TD.isAgg, SX.TD.isIface, SX.tails, SX.NotAgg, SX.evLookup, SX.evConvH, SX.evPtrEq, SX.isCells, SX.thaw, SX.frz, SX.fixB, SX.rootIx, SX.Froz, SX.frzStep, SX.fork, Go.Value.cells, Go.undef, cfg12, hc]
    refine ⟨by (unfold SX.Ob; first | trivial | omega | ((try simp only [SX.inK]); (try simp [SX.den, SX.IsU8, SX.AllP, *]); (try omega))), ?_⟩
    intro a3 w3 hr3 _
    exact post_retn (end2 hr3 rfl rfl rfl (.inr ⟨fun h => hC h.1, by simp [den, denL], hr3.keeps.toBelow⟩)).1
  have hc : chkE L = 0 := if_pos hC
  refine seg cfg12_ok mixed PanicFree.body 1000 [] [(12, false)] h2 (by first | trivial | exact HpRep.nil | assumption) (by kernel_rfl) fun s_ hs_ => ?_
  simp (maxSteps := 10000000) [SX.vc, SX.stop, SX.contS, SX.contB, SX.contW, SX.contR, SX.contD, SX.sxStep, SX.stepPure, SX.stepNew, SX.stepStore, SX.stepKeep, SX.guardIx, SX.evOp, SX.opd, SX.opds, SX.optOpd, SX.look, SX.putS, SX.gobs, SX.AllP, SX.leave, SX.lookC, SX.lookB, SX.lookT, SX.lookN, SX.findK, SX.evBuiltin, SX.ints, SX.foldI, SX.evBin, SX.evInt, SX.evStr, SX.evEq, SX.arith, SX.evLoad, SX.shapeUp, SX.evFieldAddr, SX.evField, SX.evIndexAddr, SX.evIndex, SX.evFill, SX.evBuild, SX.szs, SX.cellsV, SX.evNew, SX.evStore, SX.spliceL, SX.SV.cells, SX.evConv, SX.evSlice, SX.bnd, SX.evNil, SX.evUn, SX.evPick, SX.pickOpd, SX.popTo, SX.cnd, SX.env0, SX.TD.isAgg, SX.TD.isIface, SX.tails, SX.NotAgg, SX.evLookup, SX.evConvH, SX.evPtrEq, SX.isCells, SX.thaw, SX.frz, SX.fixB, SX.rootIx, SX.Froz, SX.frzStep, SX.fork, Go.Value.cells, Go.undef, cfg12, hc]
  refine ⟨by (unfold SX.Ob; first | trivial | omega | ((try simp only [SX.inK]); (try simp [SX.den, SX.IsU8, SX.AllP, *]); (try omega))), ?_⟩
  intro a3 w3 hr3 _
  refine post_call 23 [.v (.slice ad es.length cp), .fn (.func 24) [] []] hr3 (by first | exact wanted_none rfl | exact wanted_zero (hr3.env.same rfl rfl rfl rfl) rfl (by simp)) rfl (callable 23 Try.func23) (cf_ok w3 _ es (hE.below hr3.keeps.toBelow) (by omega)) ?_
  rintro e4 w4 ⟨rfl, hb4⟩
  refine ⟨_, rfl, ?_⟩
  have h4 := hr3.ret hb4 14 (.v (.bool (!decide (AllMay es)))) rfl _ (hr3.all.below hb4) (by simp) rfl
  by_cases hA : AllMay es
  rotate_left
  · refine seg cfg12_ok mixed PanicFree.body 1000 [true] [(12, false)] h4 (by first | trivial | exact HpRep.nil | assumption) (by kernel_rfl) fun s_ hs_ => ?_
    simp (maxSteps := 10000000) [SX.vc, SX.stop, SX.contS, SX.contB, SX.contW, SX.contR, SX.contD, SX.sxStep, SX.stepPure, SX.stepNew, SX.stepStore, SX.stepKeep, SX.guardIx, SX.evOp, SX.opd, SX.opds, SX.optOpd, SX.look, SX.putS, SX.gobs, SX.AllP, SX.leave, SX.lookC, SX.lookB, SX.lookT, SX.lookN, SX.findK, SX.evBuiltin, SX.ints, SX.foldI, SX.evBin, SX.evInt, SX.evStr, SX.evEq, SX.arith, SX.evLoad, SX.shapeUp, SX.evFieldAddr, SX.evField, SX.evIndexAddr, SX.evIndex, SX.evFill, SX.evBuild, SX.szs, SX.cellsV, SX.evNew, SX.evStore, SX.spliceL, SX.SV.cells, SX.evConv, SX.evSlice, SX.bnd, SX.evNil, SX.evUn, SX.evPick, SX.pickOpd, SX.popTo, SX.cnd, SX.env0, SX.TD.isAgg, SX.TD.isIface, SX.tails, SX.NotAgg, SX.evLookup, SX.evConvH, SX.evPtrEq, SX.isCells, SX.thaw, SX.frz, SX.fixB, SX.rootIx, SX.Froz, SX.frzStep, SX.fork, Go.Value.cells, Go.undef, cfg12, hA]
    refine ⟨by (unfold SX.Ob; first | trivial | omega | ((try simp only [SX.inK]); (try simp [SX.den, SX.IsU8, SX.AllP, *]); (try omega))), ?_⟩
    intro a5 w5 hr5 _
    exact post_retn (end2 hr5 rfl rfl rfl (.inr ⟨fun h => hA h.2, by simp [den, denL], hr5.keeps.toBelow⟩)).1
  refine seg cfg12_ok mixed PanicFree.body 1000 [false] [(12, false)] h4 (by first | trivial | exact HpRep.nil | assumption) (by kernel_rfl) fun s_ hs_ => ?_
  simp (maxSteps := 10000000) [SX.vc, SX.stop, SX.contS, SX.contB, SX.contW, SX.contR, SX.contD, SX.sxStep, SX.stepPure, SX.stepNew, SX.stepStore, SX.stepKeep, SX.guardIx, SX.evOp, SX.opd, SX.opds, SX.optOpd, SX.look, SX.putS, SX.gobs, SX.AllP, SX.leave, SX.lookC, SX.lookB, SX.lookT, SX.lookN, SX.findK, SX.evBuiltin, SX.ints, SX.foldI, SX.evBin, SX.evInt, SX.evStr, SX.evEq, SX.arith, SX.evLoad, SX.shapeUp, SX.evFieldAddr, SX.evField, SX.evIndexAddr, SX.evIndex, SX.evFill, SX.evBuild, SX.szs, SX.cellsV, SX.evNew, SX.evStore, SX.spliceL, SX.SV.cells, SX.evConv, SX.evSlice, SX.bnd, SX.evNil, SX.evUn, SX.evPick, SX.pickOpd, SX.popTo, SX.cnd, SX.env0, SX.TD.isAgg, SX.TD.isIface, SX.tails, SX.NotAgg, SX.evLookup, SX.evConvH, SX.evPtrEq, SX.isCells, SX.thaw, SX.frz, SX.fixB, SX.rootIx, SX.Froz, SX.frzStep, SX.fork, Go.Value.cells, Go.undef, cfg12, hA]
  refine ⟨by (unfold SX.Ob; first | trivial | omega | ((try simp only [SX.inK]); (try simp [SX.den, SX.IsU8, SX.AllP, *]); (try omega))), ?_⟩
  intro a5 w5 hr5 _
  refine post_loop (PutLoop w (.slice ad es.length cp) L es) es.length ⟨0, v, L, rfl, by omega, by simpa using PutsTo.nil, (hL.below hr5.keeps.toBelow).mono fun _ _ _ => trivial, hr5.re (by simp [envTo, SX.look]) trivial rfl rfl⟩ ?_
  rintro m a6 w6 ⟨k, v6, M, rfl, hk, hM, hv6, hr6⟩
  obtain ⟨hMC, hMl⟩ := hM.good hC fun x hx => hA x (List.mem_of_mem_take hx)
  have hMl' : M.length ≤ 50000 := by rw [List.length_take] at hMl; omega
  by_cases hlt : k < es.length
  · obtain ⟨b, o0, cap, u, fz, hP, hv, hrep⟩ := hE.opn hlt
    cases hv
    have hrep2 := SO.rep_same hrep (hr6.keeps.toBelow.block _ (SO.rep_lt hrep))
    obtain ⟨x, hx⟩ : ∃ x, nth ext0 es k = x := ⟨_, rfl⟩
    have hMx : May x := hx ▸ hA _ (nth_mem hlt)
    have h7 := (hr6.top 16 (.sl 0 b o0 0 es.length cp 5) rfl (by simp [den])).see _ (HpAll.one hrep2)
    refine seg cfg12_ok mixed PanicFree.body 1000 [true] [] h7.rebase (by first | trivial | exact HpRep.nil | assumption) (by kernel_rfl) fun sB hsB => ?_
    simp (maxSteps := 10000000) [SX.vc, SX.stop, SX.contS, SX.contB, SX.contW, SX.contR, SX.contD, SX.sxStep, SX.stepPure, SX.stepNew, SX.stepStore, SX.stepKeep, SX.guardIx, SX.evOp, SX.opd, SX.opds, SX.optOpd, SX.look, SX.putS, SX.gobs, SX.AllP, SX.leave, SX.lookC, SX.lookB, SX.lookT, SX.lookN, SX.findK, SX.evBuiltin, SX.ints, SX.foldI, SX.evBin, SX.evInt, SX.evStr, SX.evEq, SX.arith, SX.evLoad, SX.shapeUp, SX.evFieldAddr, SX.evField, SX.evIndexAddr, SX.evIndex, SX.evFill, SX.evBuild, SX.szs, SX.cellsV, SX.evNew, SX.evStore, SX.spliceL, SX.SV.cells, SX.evConv, SX.evSlice, SX.bnd, SX.evNil, SX.evUn, SX.evPick, SX.pickOpd, SX.popTo, SX.cnd, SX.env0, SX.TD.isAgg, SX.TD.isIface, SX.tails, SX.NotAgg, SX.evLookup, SX.evConvH, SX.evPtrEq, SX.isCells, SX.thaw, SX.frz, SX.fixB, SX.rootIx, SX.Froz, SX.frzStep, SX.fork, Go.Value.cells, Go.undef, cfg12, extC, hx]
    refine ⟨by (unfold SX.Ob; first | trivial | omega | ((try simp only [SX.inK]); (try simp [SX.den, SX.IsU8, SX.AllP, *]); (try omega))), ?_⟩
    intro a8 w8 hr8' _
    have hr8 := h7.unbase hr8'
    have hv8 := hv6.keep hr8'.keeps (by simp [frameAt, mutB])
    have hS : RdE (fun _ => True) w8 (den (.sl 2 (sB + 1) 0 0 1 1 5)) [x] := (RdS.lit (x := x) hr8.all.2.2.1.1 (by simp [extC])).mono fun _ _ _ => trivial
    have hRc : Calls Try.prog 26 (denL [.v v6, .v (.int .i64 x.lba), .v (.int .i64 x.n), .sl 2 (sB + 1) 0 0 1 1 5]).toArray w8 (ReplPost w8 M x.lba x.n [x]) := repl_ok w8 v6 _ M [x] x.lba x.n hv8 hS hMC hMx.blocks (by omega) (by simp)
    refine post_call 26 [.v v6, .v (.int .i64 x.lba), .v (.int .i64 x.n), .sl 2 (sB + 1) 0 0 1 1 5] hr8 (by first | exact wanted_none rfl | exact wanted_zero (hr8.env.same rfl rfl rfl rfl) rfl (by simp)) rfl (callable 26 Try.func26) (hRc) ?_
    rintro e9 w9 ⟨i9, k9, v9, rfl, hIK, hO9, hb9⟩
    refine ⟨_, rfl, ?_⟩
    have h9 := hr8.ret hb9 29 (.v v9) rfl _ (hr8.all.below hb9) (by simp) rfl
    refine seg cfg12_ok mixed PanicFree.body 1000 [] [] h9.rebase (by first | trivial | exact HpRep.nil | assumption) (by kernel_rfl) fun s_ hs_ => ?_
    simp (maxSteps := 10000000) [SX.vc, SX.stop, SX.contS, SX.contB, SX.contW, SX.contR, SX.contD, SX.sxStep, SX.stepPure, SX.stepNew, SX.stepStore, SX.stepKeep, SX.guardIx, SX.evOp, SX.opd, SX.opds, SX.optOpd, SX.look, SX.putS, SX.gobs, SX.AllP, SX.leave, SX.lookC, SX.lookB, SX.lookT, SX.lookN, SX.findK, SX.evBuiltin, SX.ints, SX.foldI, SX.evBin, SX.evInt, SX.evStr, SX.evEq, SX.arith, SX.evLoad, SX.shapeUp, SX.evFieldAddr, SX.evField, SX.evIndexAddr, SX.evIndex, SX.evFill, SX.evBuild, SX.szs, SX.cellsV, SX.evNew, SX.evStore, SX.spliceL, SX.SV.cells, SX.evConv, SX.evSlice, SX.bnd, SX.evNil, SX.evUn, SX.evPick, SX.pickOpd, SX.popTo, SX.cnd, SX.env0, SX.TD.isAgg, SX.TD.isIface, SX.tails, SX.NotAgg, SX.evLookup, SX.evConvH, SX.evPtrEq, SX.isCells, SX.thaw, SX.frz, SX.fixB, SX.rootIx, SX.Froz, SX.frzStep, SX.fork, Go.Value.cells, Go.undef, cfg12]
    refine ⟨by (unfold SX.Ob; first | trivial | omega | ((try simp only [SX.inK]); (try simp [SX.den, SX.IsU8, SX.AllP, *]); (try omega))), ?_⟩
    intro a10 w10 hr10' _
    have hr10 := h9.unbase hr10'
    have s1 := SO.rep_lt hr8.all.2.1.1
    have s2 := SO.rep_lt hr8.all.2.2.1.1
    have hO10 := hO9.keep hr10'.keeps (by
      intro x hx
      simp [frameAt, mutB] at hx
      omega)
    have hP10 : PutsTo L (es.take (k + 1)) (replL M x.lba x.n [x] i9 k9) := by
      rw [take_nth (d := ext0) hlt, hx]
      exact .snoc hM hIK
    exact post_rnd (es.length - (k + 1)) (by omega) ⟨k + 1, v9, _, rfl, hlt, hP10, hO10.rd.mono (fun _ _ _ => trivial), hr10.re (by simp [envTo, SX.look, den]) trivial rfl rfl⟩
  · obtain rfl : k = es.length := by omega
    rw [List.take_length] at hM
    refine seg cfg12_ok mixed PanicFree.body 1000 [false] [] hr6.rebase (by first | trivial | exact HpRep.nil | assumption) (by kernel_rfl) fun s_ hs_ => ?_
    simp (maxSteps := 10000000) [SX.vc, SX.stop, SX.contS, SX.contB, SX.contW, SX.contR, SX.contD, SX.sxStep, SX.stepPure, SX.stepNew, SX.stepStore, SX.stepKeep, SX.guardIx, SX.evOp, SX.opd, SX.opds, SX.optOpd, SX.look, SX.putS, SX.gobs, SX.AllP, SX.leave, SX.lookC, SX.lookB, SX.lookT, SX.lookN, SX.findK, SX.evBuiltin, SX.ints, SX.foldI, SX.evBin, SX.evInt, SX.evStr, SX.evEq, SX.arith, SX.evLoad, SX.shapeUp, SX.evFieldAddr, SX.evField, SX.evIndexAddr, SX.evIndex, SX.evFill, SX.evBuild, SX.szs, SX.cellsV, SX.evNew, SX.evStore, SX.spliceL, SX.SV.cells, SX.evConv, SX.evSlice, SX.bnd, SX.evNil, SX.evUn, SX.evPick, SX.pickOpd, SX.popTo, SX.cnd, SX.env0, SX.TD.isAgg, SX.TD.isIface, SX.tails, SX.NotAgg, SX.evLookup, SX.evConvH, SX.evPtrEq, SX.isCells, SX.thaw, SX.frz, SX.fixB, SX.rootIx, SX.Froz, SX.frzStep, SX.fork, Go.Value.cells, Go.undef, cfg12]
    refine ⟨by (unfold SX.Ob; first | trivial | omega | ((try simp only [SX.inK]); (try simp [SX.den, SX.IsU8, SX.AllP, *]); (try omega))), ?_⟩
    intro a7 w7 hr7' _
    have hr7 := hr6.unbase hr7'
    have z7 : w.heap.size ≤ w7.heap.size := hr7.keeps.size
    refine post_call 21 [.v v6] hr7 (by first | exact wanted_none rfl | exact wanted_zero (hr7.env.same rfl rfl rfl rfl) rfl (by simp)) rfl (callable 21 Try.func21) (join_ok w7 v6 M (hv6.keep hr7'.keeps (by simp [frameAt, mutB])) (by omega)) ?_
    rintro e8 w8 ⟨v8, rfl, hO8, hb8⟩
    refine ⟨_, rfl, ?_⟩
    have h8 := hr7.ret hb8 32 (.v v8) rfl _ (hr7.all.below hb8) (by simp) rfl
    obtain ⟨d8, c8, rfl⟩ := hO8.slice
    by_cases hlen : 10000 < (joinE M).length
    · have hlen' : (10000 : Int) < ((joinE M).length : Int) := by omega
      refine seg cfg12_ok mixed PanicFree.body 1000 [true] [] h8 (by first | trivial | exact HpRep.nil | assumption) (by kernel_rfl) fun s_ hs_ => ?_
      simp (maxSteps := 10000000) [SX.vc, SX.stop, SX.contS, SX.contB, SX.contW, SX.contR, SX.contD, SX.sxStep, SX.stepPure, SX.stepNew, SX.stepStore, SX.stepKeep, SX.guardIx, SX.evOp, SX.opd, SX.opds, SX.optOpd, SX.look, SX.putS, SX.gobs, SX.AllP, SX.leave, SX.lookC, SX.lookB, SX.lookT, SX.lookN, SX.findK, SX.evBuiltin, SX.ints, SX.foldI, SX.evBin, SX.evInt, SX.evStr, SX.evEq, SX.arith, SX.evLoad, SX.shapeUp, SX.evFieldAddr, SX.evField, SX.evIndexAddr, SX.evIndex, SX.evFill, SX.evBuild, SX.szs, SX.cellsV, SX.evNew, SX.evStore, SX.spliceL, SX.SV.cells, SX.evConv, SX.evSlice, SX.bnd, SX.evNil, SX.evUn, SX.evPick, SX.pickOpd, SX.popTo, SX.cnd, SX.env0, SX.TD.isAgg, SX.TD.isIface, SX.tails, SX.NotAgg, SX.evLookup, SX.evConvH, SX.evPtrEq, SX.isCells, SX.thaw, SX.frz, SX.fixB, SX.rootIx, SX.Froz, SX.frzStep, SX.fork, Go.Value.cells, Go.undef, cfg12, hlen']
      refine ⟨by (unfold SX.Ob; first | trivial | omega | ((try simp only [SX.inK]); (try simp [SX.den, SX.IsU8, SX.AllP, *]); (try omega))), ?_⟩
      intro a9 w9 hr9 _
      exact post_retn (end2 hr9 rfl rfl rfl (.inl ⟨hC, hA, M, hM, hMC, .inr ⟨hlen, by simp [den, denL]⟩, hr9.keeps.toBelow⟩)).1
    · have hlen' : ¬ (10000 : Int) < ((joinE M).length : Int) := by omega
      refine seg cfg12_ok mixed PanicFree.body 1000 [false] [] h8.rebase (by first | trivial | exact HpRep.nil | assumption) (by kernel_rfl) fun s_ hs_ => ?_
      simp (maxSteps := 10000000) [SX.vc, SX.stop, SX.contS, SX.contB, SX.contW, SX.contR, SX.contD, SX.sxStep, SX.stepPure, SX.stepNew, SX.stepStore, SX.stepKeep, SX.guardIx, SX.evOp, SX.opd, SX.opds, SX.optOpd, SX.look, SX.putS, SX.gobs, SX.AllP, SX.leave, SX.lookC, SX.lookB, SX.lookT, SX.lookN, SX.findK, SX.evBuiltin, SX.ints, SX.foldI, SX.evBin, SX.evInt, SX.evStr, SX.evEq, SX.arith, SX.evLoad, SX.shapeUp, SX.evFieldAddr, SX.evField, SX.evIndexAddr, SX.evIndex, SX.evFill, SX.evBuild, SX.szs, SX.cellsV, SX.evNew, SX.evStore, SX.spliceL, SX.SV.cells, SX.evConv, SX.evSlice, SX.bnd, SX.evNil, SX.evUn, SX.evPick, SX.pickOpd, SX.popTo, SX.cnd, SX.env0, SX.TD.isAgg, SX.TD.isIface, SX.tails, SX.NotAgg, SX.evLookup, SX.evConvH, SX.evPtrEq, SX.isCells, SX.thaw, SX.frz, SX.fixB, SX.rootIx, SX.Froz, SX.frzStep, SX.fork, Go.Value.cells, Go.undef, cfg12, hlen']
      refine ⟨by (unfold SX.Ob; first | trivial | omega | ((try simp only [SX.inK]); (try simp [SX.den, SX.IsU8, SX.AllP, *]); (try omega))), ?_⟩
      intro a9 w9 hr9' _
      have hr9 := h8.unbase hr9'
      exact post_retn (end2 hr9 rfl rfl rfl (.inl ⟨hC, hA, M, hM, hMC, .inl ⟨by omega, _, by simp only [den, denL], (hO8.keep hr9'.keeps (by simp [frameAt, mutB])).mono (fun x _ hx => Nat.le_trans z7 hx)⟩, hr9.keeps.toBelow⟩)).1

def SameP (L M : List Ext) : Prop := Chk L ∧ Chk M ∧ joinE L = joinE M
instance (L M : List Ext) : Decidable (SameP L M) := by unfold SameP; infer_instance

set_option maxRecDepth 100000 in
set_option maxHeartbeats 8000000 in
/-- Same. -/
theorem Same_ok {P P' : Nat → Prop} (w : World) (v v' : Value) (L M : List Ext) (hL : RdE P w v L) (hM : RdE P' w v' M) (hn : L.length ≤ 100000) (hm : M.length ≤ 100000) : Calls Try.prog 18 (denL [.v v, .v v']).toArray w (Ret w (.v (.bool (decide (SameP L M))))) := by
  refine enter (F := frame0 w) Try.func18 rfl [.v v, .v v'] [] (by simp [Try.f18]) trivial (keeps0 w) fun a hr => ?_
  refine seg cfg18_ok mixed PanicFree.body 1000 [] [] hr (by first | trivial | exact HpRep.nil | assumption) (by kernel_rfl) fun s_ hs_ => ?_
  simp (maxSteps := 10000000) [SX.vc, SX.stop, SX.contS, SX.contB, SX.contW, SX.contR, SX.contD, SX.sxStep, SX.stepPure, SX.stepNew, SX.stepStore, SX.stepKeep, SX.guardIx, SX.evOp, SX.opd, SX.opds, SX.optOpd, SX.look, SX.putS, SX.gobs, SX.AllP, SX.leave, SX.lookC, SX.lookB, SX.lookT, SX.lookN, SX.findK, SX.evBuiltin, SX.ints, SX.foldI, SX.evBin, SX.evInt, SX.evStr, SX.evEq, SX.arith, SX.evLoad, SX.shapeUp, SX.evFieldAddr, SX.evField, SX.evIndexAddr, SX.evIndex, SX.evFill, SX.evBuild, SX.szs, SX.cellsV, SX.evNew, SX.evStore, SX.spliceL, SX.SV.cells, SX.evConv, SX.evSlice, SX.bnd, SX.evNil, SX.evUn, SX.evPick, SX.pickOpd, SX.popTo, SX.cnd, SX.env0, SX.TD.isAgg, SX.TD.isIface, SX.tails, SX.NotAgg, SX.evLookup, SX.evConvH, SX.evPtrEq, SX.isCells, SX.thaw, SX.frz, SX.fixB, SX.rootIx, SX.Froz, SX.frzStep, SX.fork, Go.Value.cells, Go.undef, cfg18, Try.f18]
  refine ⟨by (unfold SX.Ob; first | trivial | omega | ((try simp only [SX.inK]); (try simp [SX.den, SX.IsU8, SX.AllP, *]); (try omega))), ?_⟩
  intro a1 w1 hr1 _
  refine post_call 22 [.v v] hr1 (by first | exact wanted_none rfl | exact wanted_zero (hr1.env.same rfl rfl rfl rfl) rfl (by simp)) rfl (callable 22 Try.func22) (check_ok w1 v L (hL.below hr1.keeps.toBelow) (by omega)) ?_
  rintro e2 w2 ⟨rfl, hb2⟩
  refine ⟨_, rfl, ?_⟩
  have h2 := hr1.ret hb2 6 (.v (.int .i64 (chkE L))) rfl _ (hr1.all.below hb2) (by simp) rfl
  by_cases hC : Chk L
  rotate_left
  · have hc : chkE L = 1 := if_neg hC
    refine seg cfg18_ok mixed PanicFree.body 1000 [] [(8, false), (13, false)] h2 (by first | trivial | exact HpRep.nil | assumption) (by kernel_rfl) fun s_ hs_ => ?_
    simp (maxSteps := 10000000) [SX.vc, SX.stop, SX.contS, SX.contB, SX.contW, SX.contR, SX.contD, SX.sxStep, SX.stepPure, SX.stepNew, SX.stepStore, SX.stepKeep, SX.guardIx, SX.evOp, SX.opd, SX.opds, SX.optOpd, SX.look, SX.putS, SX.gobs, SX.AllP, SX.leave, SX.lookC, SX.lookB, SX.lookT, SX.lookN, SX.findK, SX.evBuiltin, SX.ints, SX.foldI, SX.evBin, SX.evInt, SX.evStr, SX.evEq, SX.arith, SX.evLoad, SX.shapeUp, SX.evFieldAddr, SX.evField, SX.evIndexAddr, SX.evIndex, SX.evFill, SX.evBuild, SX.szs, SX.cellsV, SX.evNew, SX.evStore, SX.spliceL, SX.SV.cells, SX.evConv, SX.evSlice, SX.bnd, SX.evNil, SX.evUn, SX.evPick, SX.pickOpd, SX.popTo, SX.cnd, SX.env0, SX.TD.isAgg, SX.TD.isIface, SX.tails, SX.NotAgg, SX.evLookup, SX.evConvH, SX.evPtrEq, SX.isCells, SX.thaw, SX.frz, SX.fixB, SX.rootIx, SX.Froz, SX.frzStep, SX.fork, Go.Value.cells, Go.undef, cfg18, hc]
    refine ⟨by (unfold SX.Ob; first | trivial | omega | ((try simp only [SX.inK]); (try simp [SX.den, SX.IsU8, SX.AllP, *]); (try omega))), ?_⟩
    intro a3 w3 hr3 _
    refine post_retn (end1 hr3 rfl rfl ⟨ret_dec ?_, hr3.keeps.toBelow⟩).1
    simp [SameP, hC]
  have hc : chkE L = 0 := if_pos hC
  refine seg cfg18_ok mixed PanicFree.body 1000 [] [(8, true)] h2 (by first | trivial | exact HpRep.nil | assumption) (by kernel_rfl) fun s_ hs_ => ?_
  simp (maxSteps := 10000000) [SX.vc, SX.stop, SX.contS, SX.contB, SX.contW, SX.contR, SX.contD, SX.sxStep, SX.stepPure, SX.stepNew, SX.stepStore, SX.stepKeep, SX.guardIx, SX.evOp, SX.opd, SX.opds, SX.optOpd, SX.look, SX.putS, SX.gobs, SX.AllP, SX.leave, SX.lookC, SX.lookB, SX.lookT, SX.lookN, SX.findK, SX.evBuiltin, SX.ints, SX.foldI, SX.evBin, SX.evInt, SX.evStr, SX.evEq, SX.arith, SX.evLoad, SX.shapeUp, SX.evFieldAddr, SX.evField, SX.evIndexAddr, SX.evIndex, SX.evFill, SX.evBuild, SX.szs, SX.cellsV, SX.evNew, SX.evStore, SX.spliceL, SX.SV.cells, SX.evConv, SX.evSlice, SX.bnd, SX.evNil, SX.evUn, SX.evPick, SX.pickOpd, SX.popTo, SX.cnd, SX.env0, SX.TD.isAgg, SX.TD.isIface, SX.tails, SX.NotAgg, SX.evLookup, SX.evConvH, SX.evPtrEq, SX.isCells, SX.thaw, SX.frz, SX.fixB, SX.rootIx, SX.Froz, SX.frzStep, SX.fork, Go.Value.cells, Go.undef, cfg18, hc]
  refine ⟨by (unfold SX.Ob; first | trivial | omega | ((try simp only [SX.inK]); (try simp [SX.den, SX.IsU8, SX.AllP, *]); (try omega))), ?_⟩
  intro a3 w3 hr3 _
  refine post_call 22 [.v v'] hr3 (by first | exact wanted_none rfl | exact wanted_zero (hr3.env.same rfl rfl rfl rfl) rfl (by simp)) rfl (callable 22 Try.func22) (check_ok w3 v' M (hM.below hr3.keeps.toBelow) (by omega)) ?_
  rintro e4 w4 ⟨rfl, hb4⟩
  refine ⟨_, rfl, ?_⟩
  have h4 := hr3.ret hb4 10 (.v (.int .i64 (chkE M))) rfl _ (hr3.all.below hb4) (by simp) rfl
  by_cases hD : Chk M
  rotate_left
  · have hd : chkE M = 1 := if_neg hD
    refine seg cfg18_ok mixed PanicFree.body 1000 [] [(8, true), (13, false)] h4 (by first | trivial | exact HpRep.nil | assumption) (by kernel_rfl) fun s_ hs_ => ?_
    simp (maxSteps := 10000000) [SX.vc, SX.stop, SX.contS, SX.contB, SX.contW, SX.contR, SX.contD, SX.sxStep, SX.stepPure, SX.stepNew, SX.stepStore, SX.stepKeep, SX.guardIx, SX.evOp, SX.opd, SX.opds, SX.optOpd, SX.look, SX.putS, SX.gobs, SX.AllP, SX.leave, SX.lookC, SX.lookB, SX.lookT, SX.lookN, SX.findK, SX.evBuiltin, SX.ints, SX.foldI, SX.evBin, SX.evInt, SX.evStr, SX.evEq, SX.arith, SX.evLoad, SX.shapeUp, SX.evFieldAddr, SX.evField, SX.evIndexAddr, SX.evIndex, SX.evFill, SX.evBuild, SX.szs, SX.cellsV, SX.evNew, SX.evStore, SX.spliceL, SX.SV.cells, SX.evConv, SX.evSlice, SX.bnd, SX.evNil, SX.evUn, SX.evPick, SX.pickOpd, SX.popTo, SX.cnd, SX.env0, SX.TD.isAgg, SX.TD.isIface, SX.tails, SX.NotAgg, SX.evLookup, SX.evConvH, SX.evPtrEq, SX.isCells, SX.thaw, SX.frz, SX.fixB, SX.rootIx, SX.Froz, SX.frzStep, SX.fork, Go.Value.cells, Go.undef, cfg18, hd]
    refine ⟨by (unfold SX.Ob; first | trivial | omega | ((try simp only [SX.inK]); (try simp [SX.den, SX.IsU8, SX.AllP, *]); (try omega))), ?_⟩
    intro a5 w5 hr5 _
    refine post_retn (end1 hr5 rfl rfl ⟨ret_dec ?_, hr5.keeps.toBelow⟩).1
    simp [SameP, hD]
  have hd : chkE M = 0 := if_pos hD
  refine seg cfg18_ok mixed PanicFree.body 1000 [] [(8, true), (13, true)] h4 (by first | trivial | exact HpRep.nil | assumption) (by kernel_rfl) fun s_ hs_ => ?_
  simp (maxSteps := 10000000) [SX.vc, SX.stop, SX.contS, SX.contB, SX.contW, SX.contR, SX.contD, SX.sxStep, SX.stepPure, SX.stepNew, SX.stepStore, SX.stepKeep, SX.guardIx, SX.evOp, SX.opd, SX.opds, SX.optOpd, SX.look, SX.putS, SX.gobs, SX.AllP, SX.leave, SX.lookC, SX.lookB, SX.lookT, SX.lookN, SX.findK, SX.evBuiltin, SX.ints, SX.foldI, SX.evBin, SX.evInt, SX.evStr, SX.evEq, SX.arith, SX.evLoad, SX.shapeUp, SX.evFieldAddr, SX.evField, SX.evIndexAddr, SX.evIndex, SX.evFill, SX.evBuild, SX.szs, SX.cellsV, SX.evNew, SX.evStore, SX.spliceL, SX.SV.cells, SX.evConv, SX.evSlice, SX.bnd, SX.evNil, SX.evUn, SX.evPick, SX.pickOpd, SX.popTo, SX.cnd, SX.env0, SX.TD.isAgg, SX.TD.isIface, SX.tails, SX.NotAgg, SX.evLookup, SX.evConvH, SX.evPtrEq, SX.isCells, SX.thaw, SX.frz, SX.fixB, SX.rootIx, SX.Froz, SX.frzStep, SX.fork, Go.Value.cells, Go.undef, cfg18, hd]
  refine ⟨by (unfold SX.Ob; first | trivial | omega | ((try simp only [SX.inK]); (try simp [SX.den, SX.IsU8, SX.AllP, *]); (try omega))), ?_⟩
  intro a5 w5 hr5 _
  refine post_call 21 [.v v] hr5 (by first | exact wanted_none rfl | exact wanted_zero (hr5.env.same rfl rfl rfl rfl) rfl (by simp)) rfl (callable 21 Try.func21) (join_ok w5 v L (hL.below hr5.keeps.toBelow) (by omega)) ?_
  rintro e6 w6 ⟨v6, rfl, hO6, hb6⟩
  refine ⟨_, rfl, ?_⟩
  have h6 := hr5.ret hb6 15 (.v v6) rfl _ (hr5.all.below hb6) (by simp) rfl
  refine seg cfg18_ok mixed PanicFree.body 1000 [] [(8, true), (13, true)] h6.rebase (by first | trivial | exact HpRep.nil | assumption) (by kernel_rfl) fun s_ hs_ => ?_
  simp (maxSteps := 10000000) [SX.vc, SX.stop, SX.contS, SX.contB, SX.contW, SX.contR, SX.contD, SX.sxStep, SX.stepPure, SX.stepNew, SX.stepStore, SX.stepKeep, SX.guardIx, SX.evOp, SX.opd, SX.opds, SX.optOpd, SX.look, SX.putS, SX.gobs, SX.AllP, SX.leave, SX.lookC, SX.lookB, SX.lookT, SX.lookN, SX.findK, SX.evBuiltin, SX.ints, SX.foldI, SX.evBin, SX.evInt, SX.evStr, SX.evEq, SX.arith, SX.evLoad, SX.shapeUp, SX.evFieldAddr, SX.evField, SX.evIndexAddr, SX.evIndex, SX.evFill, SX.evBuild, SX.szs, SX.cellsV, SX.evNew, SX.evStore, SX.spliceL, SX.SV.cells, SX.evConv, SX.evSlice, SX.bnd, SX.evNil, SX.evUn, SX.evPick, SX.pickOpd, SX.popTo, SX.cnd, SX.env0, SX.TD.isAgg, SX.TD.isIface, SX.tails, SX.NotAgg, SX.evLookup, SX.evConvH, SX.evPtrEq, SX.isCells, SX.thaw, SX.frz, SX.fixB, SX.rootIx, SX.Froz, SX.frzStep, SX.fork, Go.Value.cells, Go.undef, cfg18]
  refine ⟨by (unfold SX.Ob; first | trivial | omega | ((try simp only [SX.inK]); (try simp [SX.den, SX.IsU8, SX.AllP, *]); (try omega))), ?_⟩
  intro a7 w7 hr7' _
  have hr7 := h6.unbase hr7'
  refine post_call 21 [.v v'] hr7 (by first | exact wanted_none rfl | exact wanted_zero (hr7.env.same rfl rfl rfl rfl) rfl (by simp)) rfl (callable 21 Try.func21) (join_ok w7 v' M (hM.below hr7.keeps.toBelow) (by omega)) ?_
  rintro e8 w8 ⟨v8, rfl, hO8, hb8⟩
  refine ⟨_, rfl, ?_⟩
  have h8 := hr7.ret hb8 17 (.v v8) rfl _ (hr7.all.below hb8) (by simp) rfl
  have hO7 := (hO6.keep hr7'.keeps (by simp [frameAt, mutB])).below hb8
  refine seg cfg18_ok mixed PanicFree.body 1000 [] [(8, true), (13, true)] h8.rebase (by first | trivial | exact HpRep.nil | assumption) (by kernel_rfl) fun s_ hs_ => ?_
  simp (maxSteps := 10000000) [SX.vc, SX.stop, SX.contS, SX.contB, SX.contW, SX.contR, SX.contD, SX.sxStep, SX.stepPure, SX.stepNew, SX.stepStore, SX.stepKeep, SX.guardIx, SX.evOp, SX.opd, SX.opds, SX.optOpd, SX.look, SX.putS, SX.gobs, SX.AllP, SX.leave, SX.lookC, SX.lookB, SX.lookT, SX.lookN, SX.findK, SX.evBuiltin, SX.ints, SX.foldI, SX.evBin, SX.evInt, SX.evStr, SX.evEq, SX.arith, SX.evLoad, SX.shapeUp, SX.evFieldAddr, SX.evField, SX.evIndexAddr, SX.evIndex, SX.evFill, SX.evBuild, SX.szs, SX.cellsV, SX.evNew, SX.evStore, SX.spliceL, SX.SV.cells, SX.evConv, SX.evSlice, SX.bnd, SX.evNil, SX.evUn, SX.evPick, SX.pickOpd, SX.popTo, SX.cnd, SX.env0, SX.TD.isAgg, SX.TD.isIface, SX.tails, SX.NotAgg, SX.evLookup, SX.evConvH, SX.evPtrEq, SX.isCells, SX.thaw, SX.frz, SX.fixB, SX.rootIx, SX.Froz, SX.frzStep, SX.fork, Go.Value.cells, Go.undef, cfg18]
  refine ⟨by (unfold SX.Ob; first | trivial | omega | ((try simp only [SX.inK]); (try simp [SX.den, SX.IsU8, SX.AllP, *]); (try omega))), ?_⟩
  intro a9 w9 hr9' _
  have hr9 := h8.unbase hr9'
  have hj1 := join_len L
  refine post_call 29 [.v v6, .v v8] hr9 (by first | exact wanted_none rfl | exact wanted_zero (hr9.env.same rfl rfl rfl rfl) rfl (by simp)) rfl (callable 29 Try.func29) (equal29_ok w9 v6 v8 _ _ (hO7.keep hr9'.keeps (by simp [frameAt, mutB])).rd (hO8.keep hr9'.keeps (by simp [frameAt, mutB])).rd (by omega)) ?_
  rintro e10 w10 ⟨rfl, hb10⟩
  refine ⟨_, rfl, ?_⟩
  have h10 := hr9.ret hb10 18 (.v (.bool (decide (joinE L = joinE M)))) rfl _ (hr9.all.below hb10) (by simp) rfl
  refine seg cfg18_ok mixed PanicFree.body 1000 [] [(8, true), (13, true)] h10 (by first | trivial | exact HpRep.nil | assumption) (by kernel_rfl) fun s_ hs_ => ?_
  simp (maxSteps := 10000000) [SX.vc, SX.stop, SX.contS, SX.contB, SX.contW, SX.contR, SX.contD, SX.sxStep, SX.stepPure, SX.stepNew, SX.stepStore, SX.stepKeep, SX.guardIx, SX.evOp, SX.opd, SX.opds, SX.optOpd, SX.look, SX.putS, SX.gobs, SX.AllP, SX.leave, SX.lookC, SX.lookB, SX.lookT, SX.lookN, SX.findK, SX.evBuiltin, SX.ints, SX.foldI, SX.evBin, SX.evInt, SX.evStr, SX.evEq, SX.arith, SX.evLoad, SX.shapeUp, SX.evFieldAddr, SX.evField, SX.evIndexAddr, SX.evIndex, SX.evFill, SX.evBuild, SX.szs, SX.cellsV, SX.evNew, SX.evStore, SX.spliceL, SX.SV.cells, SX.evConv, SX.evSlice, SX.bnd, SX.evNil, SX.evUn, SX.evPick, SX.pickOpd, SX.popTo, SX.cnd, SX.env0, SX.TD.isAgg, SX.TD.isIface, SX.tails, SX.NotAgg, SX.evLookup, SX.evConvH, SX.evPtrEq, SX.isCells, SX.thaw, SX.frz, SX.fixB, SX.rootIx, SX.Froz, SX.frzStep, SX.fork, Go.Value.cells, Go.undef, cfg18]
  refine ⟨by (unfold SX.Ob; first | trivial | omega | ((try simp only [SX.inK]); (try simp [SX.den, SX.IsU8, SX.AllP, *]); (try omega))), ?_⟩
  intro a11 w11 hr11 _
  refine post_retn (end1 hr11 rfl rfl ⟨ret_dec ?_, hr11.keeps.toBelow⟩).1
  simp [SameP, hC, hD]

def FewLoop (w : World) (s m : Nat) (u : TypeId) (fz : Nat × Nat) (vs : List Value) (Ls : List (List Ext)) (q : Nat) (a : Act) (w' : World) : Prop :=
  ∃ k : Nat, q = m - k ∧ k ≤ m ∧ (∀ j, j < k → (nth [] Ls j).length ≤ 300) ∧ RepX (frame0 w) ⟨[(7, 0, .v (.int .i64 k)), (6, 0, .v (.int .i64 m)), (5, 0, .sl 0 s 0 0 m m 1)], [(s, false, .arr 0 m (fun j => [.v (nth vnil vs j)]) 1 u fz)], 0, 0, 15, [], [], []⟩ a w'

def AllFew (m : Nat) (Ls : List (List Ext)) : Prop := ∀ j, j < m → (nth [] Ls j).length ≤ 300
def FewPost (w : World) (m : Nat) (Ls : List (List Ext)) (e : Ending) (w' : World) : Prop := ∃ r : Bool, e = .returned (.bool r) ∧ (r = true ↔ AllFew m Ls) ∧ Below w.heap.size w w'

set_option maxRecDepth 100000 in
set_option maxHeartbeats 8000000 in
/-- few. -/
theorem few_ok (w : World) (s m : Nat) (u : TypeId) (fz : Nat × Nat) (vs : List Value) (Ls : List (List Ext)) (hrep : (SO.arr 0 m (fun j => [.v (nth vnil vs j)]) 1 u fz).rep w s)
    (hv : ∀ j, j < m → ∃ ad cp, nth vnil vs j = .slice ad (nth [] Ls j).length cp) (hm : m ≤ 1000000) : Calls Try.prog 9 (denL [.sl 0 s 0 0 m m 1]).toArray w (FewPost w m Ls) := by
  refine enter (F := frame0 w) Try.func9 rfl [.sl 0 s 0 0 m m 1] [(s, false, .arr 0 m (fun j => [.v (nth vnil vs j)]) 1 u fz)] (by simp [Try.f9]) (HpAll.one hrep) (keeps0 w) fun a hr => ?_
  refine seg cfg9_ok mixed PanicFree.body 1000 [] [] hr (by first | trivial | exact HpRep.nil | assumption) (by kernel_rfl) fun s_ hs_ => ?_
  simp (maxSteps := 10000000) [SX.vc, SX.stop, SX.contS, SX.contB, SX.contW, SX.contR, SX.contD, SX.sxStep, SX.stepPure, SX.stepNew, SX.stepStore, SX.stepKeep, SX.guardIx, SX.evOp, SX.opd, SX.opds, SX.optOpd, SX.look, SX.putS, SX.gobs, SX.AllP, SX.leave, SX.lookC, SX.lookB, SX.lookT, SX.lookN, SX.findK, SX.evBuiltin, SX.ints, SX.foldI, SX.evBin, SX.evInt, SX.evStr, SX.evEq, SX.arith, SX.evLoad, SX.shapeUp, SX.evFieldAddr, SX.evField, SX.evIndexAddr, SX.evIndex, SX.evFill, SX.evBuild, SX.szs, SX.cellsV, SX.evNew, SX.evStore, SX.spliceL, SX.SV.cells, SX.evConv, SX.evSlice, SX.bnd, SX.evNil, SX.evUn, SX.evPick, SX.pickOpd, SX.popTo, SX.cnd, SX.env0, SX.TD.isAgg, SX.TD.isIface, SX.tails, SX.NotAgg, SX.evLookup, SX.evConvH, SX.evPtrEq, SX.isCells, SX.thaw, SX.frz, SX.fixB, SX.rootIx, SX.Froz, SX.frzStep, SX.fork, Go.Value.cells, Go.undef, cfg9, Try.f9]
  refine ⟨by (unfold SX.Ob; first | trivial | omega | ((try simp only [SX.inK]); (try simp [SX.den, SX.IsU8, SX.AllP, *]); (try omega))), ?_⟩
  intro a1 w1 hr1 _
  refine post_loop (FewLoop w s m u fz vs Ls) m ⟨0, rfl, by omega, by omega, hr1.re (by simp [envTo, SX.look]) hr1.all rfl rfl⟩ ?_
  rintro q a2 w2 ⟨k, rfl, hk, hs, hr2⟩
  by_cases hlt : k < m
  · obtain ⟨vd, vc, hvk⟩ := hv k hlt
    by_cases hb : 300 < (nth [] Ls k).length
    · have hb' : (300 : Int) < ((nth [] Ls k).length : Int) := by omega
      refine seg cfg9_ok mixed PanicFree.body 1000 [true, true] [] hr2 (by first | trivial | exact HpRep.nil | assumption) (by kernel_rfl) fun s_ hs_ => ?_
      simp (maxSteps := 10000000) [SX.vc, SX.stop, SX.contS, SX.contB, SX.contW, SX.contR, SX.contD, SX.sxStep, SX.stepPure, SX.stepNew, SX.stepStore, SX.stepKeep, SX.guardIx, SX.evOp, SX.opd, SX.opds, SX.optOpd, SX.look, SX.putS, SX.gobs, SX.AllP, SX.leave, SX.lookC, SX.lookB, SX.lookT, SX.lookN, SX.findK, SX.evBuiltin, SX.ints, SX.foldI, SX.evBin, SX.evInt, SX.evStr, SX.evEq, SX.arith, SX.evLoad, SX.shapeUp, SX.evFieldAddr, SX.evField, SX.evIndexAddr, SX.evIndex, SX.evFill, SX.evBuild, SX.szs, SX.cellsV, SX.evNew, SX.evStore, SX.spliceL, SX.SV.cells, SX.evConv, SX.evSlice, SX.bnd, SX.evNil, SX.evUn, SX.evPick, SX.pickOpd, SX.popTo, SX.cnd, SX.env0, SX.TD.isAgg, SX.TD.isIface, SX.tails, SX.NotAgg, SX.evLookup, SX.evConvH, SX.evPtrEq, SX.isCells, SX.thaw, SX.frz, SX.fixB, SX.rootIx, SX.Froz, SX.frzStep, SX.fork, Go.Value.cells, Go.undef, cfg9, hvk, hb']
      refine ⟨by (unfold SX.Ob; first | trivial | omega | ((try simp only [SX.inK]); (try simp [SX.den, SX.IsU8, SX.AllP, *]); (try omega))), ?_⟩
      intro a3 w3 hr3 _
      exact post_retn (end1 hr3 rfl rfl ⟨false, rfl, ⟨(fun h => by cases h), fun h => absurd (h k hlt) (by omega)⟩, hr3.keeps.toBelow⟩).1
    · have hb' : ¬ (300 : Int) < ((nth [] Ls k).length : Int) := by omega
      refine seg cfg9_ok mixed PanicFree.body 1000 [true, false] [] hr2 (by first | trivial | exact HpRep.nil | assumption) (by kernel_rfl) fun s_ hs_ => ?_
      simp (maxSteps := 10000000) [SX.vc, SX.stop, SX.contS, SX.contB, SX.contW, SX.contR, SX.contD, SX.sxStep, SX.stepPure, SX.stepNew, SX.stepStore, SX.stepKeep, SX.guardIx, SX.evOp, SX.opd, SX.opds, SX.optOpd, SX.look, SX.putS, SX.gobs, SX.AllP, SX.leave, SX.lookC, SX.lookB, SX.lookT, SX.lookN, SX.findK, SX.evBuiltin, SX.ints, SX.foldI, SX.evBin, SX.evInt, SX.evStr, SX.evEq, SX.arith, SX.evLoad, SX.shapeUp, SX.evFieldAddr, SX.evField, SX.evIndexAddr, SX.evIndex, SX.evFill, SX.evBuild, SX.szs, SX.cellsV, SX.evNew, SX.evStore, SX.spliceL, SX.SV.cells, SX.evConv, SX.evSlice, SX.bnd, SX.evNil, SX.evUn, SX.evPick, SX.pickOpd, SX.popTo, SX.cnd, SX.env0, SX.TD.isAgg, SX.TD.isIface, SX.tails, SX.NotAgg, SX.evLookup, SX.evConvH, SX.evPtrEq, SX.isCells, SX.thaw, SX.frz, SX.fixB, SX.rootIx, SX.Froz, SX.frzStep, SX.fork, Go.Value.cells, Go.undef, cfg9, hvk, hb']
      refine ⟨by (unfold SX.Ob; first | trivial | omega | ((try simp only [SX.inK]); (try simp [SX.den, SX.IsU8, SX.AllP, *]); (try omega))), ?_⟩
      intro a3 w3 hr3 _
      exact post_rnd (m - (k + 1)) (by omega) ⟨k + 1, rfl, hlt, fun j hj => (by
        rcases Nat.lt_or_ge j k with h | h
        · exact hs j h
        · obtain rfl : j = k := by omega
          omega), hr3.re (by simp [envTo, SX.look, den]) hr3.all rfl rfl⟩
  · obtain rfl : k = m := by omega
    refine seg cfg9_ok mixed PanicFree.body 1000 [false] [] hr2 (by first | trivial | exact HpRep.nil | assumption) (by kernel_rfl) fun s_ hs_ => ?_
    simp (maxSteps := 10000000) [SX.vc, SX.stop, SX.contS, SX.contB, SX.contW, SX.contR, SX.contD, SX.sxStep, SX.stepPure, SX.stepNew, SX.stepStore, SX.stepKeep, SX.guardIx, SX.evOp, SX.opd, SX.opds, SX.optOpd, SX.look, SX.putS, SX.gobs, SX.AllP, SX.leave, SX.lookC, SX.lookB, SX.lookT, SX.lookN, SX.findK, SX.evBuiltin, SX.ints, SX.foldI, SX.evBin, SX.evInt, SX.evStr, SX.evEq, SX.arith, SX.evLoad, SX.shapeUp, SX.evFieldAddr, SX.evField, SX.evIndexAddr, SX.evIndex, SX.evFill, SX.evBuild, SX.szs, SX.cellsV, SX.evNew, SX.evStore, SX.spliceL, SX.SV.cells, SX.evConv, SX.evSlice, SX.bnd, SX.evNil, SX.evUn, SX.evPick, SX.pickOpd, SX.popTo, SX.cnd, SX.env0, SX.TD.isAgg, SX.TD.isIface, SX.tails, SX.NotAgg, SX.evLookup, SX.evConvH, SX.evPtrEq, SX.isCells, SX.thaw, SX.frz, SX.fixB, SX.rootIx, SX.Froz, SX.frzStep, SX.fork, Go.Value.cells, Go.undef, cfg9]
    refine ⟨by (unfold SX.Ob; first | trivial | omega | ((try simp only [SX.inK]); (try simp [SX.den, SX.IsU8, SX.AllP, *]); (try omega))), ?_⟩
    intro a3 w3 hr3 _
    exact post_retn (end1 hr3 rfl rfl ⟨true, rfl, ⟨fun _ => hs, fun _ => rfl⟩, hr3.keeps.toBelow⟩).1
end Go.Proofs
