/- Requests: DedupApart walked. -/
import Derived.Test.YtffooiccklfhlaaNK
import Derived.Test.YtffooiccklfhlaaNL
namespace Go.Proofs
set_option linter.unusedVariables false
set_option linter.unusedSimpArgs false
set_option linter.unusedSectionVars false
open Go Go.SX Go.RowKit

def fgL (K : List Int) (L : List Sen) : List Sen := L.filter fun s => !decide (s.frm ∈ K)
theorem fg_chk {K : List Int} {L : List Sen} (h : ChkN (-1) L) : ChkN (-1) (fgL K L) := by
  have := chkN_pw.1 h
  exact chkN_pw.2 ⟨fun s hs => this.1 s (List.mem_filter.1 hs).1, this.2.sublist List.filter_sublist⟩
theorem fg_small {K : List Int} {L : List Sen} (h : SmallN L) : SmallN (fgL K L) := fun s hs => h s (List.mem_filter.1 hs).1
theorem fg_of {K : List Int} {L : List Sen} (g : Int) : ofN (fgL K L) g = if g ∈ K then none else ofN L g := by
  unfold ofN fgL
  rw [List.find?_filter]
  by_cases h : g ∈ K
  · rw [if_pos h, List.find?_eq_none]
    intro s _
    simp only [Bool.and_eq_true, Bool.not_eq_true', decide_eq_false_iff_not, decide_eq_true_eq, not_and]
    rintro h1 rfl
    exact h1 h
  · rw [if_neg h]
    congr 1
    funext s
    by_cases hs : s.frm = g
    · simp [hs, h]
    · simp [hs]
theorem fg_ask {K : List Int} {L : List Sen} (hC : ChkN (-1) L) {g i : Int} (h : g ∉ K) : askK (fgL K L) g i = askK L g i ∧ askM (fgL K L) g i = askM L g i := by
  have e : getN (fgL K L) g = getN L g := by rw [getN, getN, fg_of, if_neg h]
  rw [(ask_eq hC).1, (ask_eq hC).2, (ask_eq (fg_chk hC)).1, (ask_eq (fg_chk hC)).2, e]
  exact ⟨rfl, rfl⟩
theorem fg_new {K : List Int} {L : List Sen} (hC : ChkN (-1) L) {g i : Int} (h : g ∈ K) (hi : 0 ≤ i) : askK (fgL K L) g i = 0 := by
  have e : getN (fgL K L) g = newN g := by rw [getN, fg_of, if_pos h]; rfl
  rw [(ask_eq (fg_chk hC)).1, e]
  simp [newN, ansS]; omega

structure AInv (one other : Int) (L : List Sen) : Prop where
  chk : ChkN (-1) L
  small : SmallN L
  only : ∀ g, g ≠ one → g ≠ other → ofN L g = none
  old : askK L other 4 = 1
  msg : askM L other 4 = mgK 77
theorem AInv.first {one other : Int} {L : List Sen} (h : DoneTo [] other ⟨4, mgK 77⟩ L) (ho : 0 ≤ other) : AInv one other L := by
  have hk0 : askK [] other 4 = 0 := by simp [askK, ChkN, ofN]
  obtain ⟨b, _, hb8, hK, hM⟩ := ask_self h ho hk0
  have hb : b = 0 := hb8 (by simp [getN, ofN, newN])
  subst hb
  exact ⟨h.chk, h.small smallN_nil (by show (4 : Int) ≤ _; omega), fun g _ hg => by rw [h.other g hg]; rfl, by rw [hK]; simp, by rw [hM]; simp⟩
theorem AInv.step {one other : Int} {L L' : List Sen} {x : Sad} (h : AInv one other L) (hD : DoneTo L one x L') (hx : x.id ≤ 1152921504606846976) (hne : one ≠ other) : AInv one other L' := by
  obtain ⟨h1, h2⟩ := ask_other (i := 4) hD h.chk (Ne.symm hne)
  exact ⟨hD.chk, hD.small h.small hx, fun g hg hg2 => by rw [hD.other g hg]; exact h.only g hg hg2, h1.trans h.old, h2.trans h.msg⟩
theorem AInv.len {one other : Int} {L : List Sen} (h : AInv one other L) (hne : one ≠ other) : (fgL [one] L).length = 1 := by
  have hp := (chkN_pw.1 (fg_chk (K := [one]) h.chk)).2
  have hall : ∀ s ∈ fgL [one] L, s.frm = other := fun s hs => by
    obtain ⟨h1, h2⟩ := List.mem_filter.1 hs
    have h3 : s.frm ≠ one := by simpa using h2
    refine Classical.byContradiction fun h4 => ?_
    have h5 := h.only s.frm h3 h4
    rw [ofN_mem (chkN_pw.1 h.chk).2 h1] at h5
    cases h5
  have hne0 : fgL [one] L ≠ [] := fun e => by
    have h1 := (fg_ask (K := [one]) h.chk (g := other) (i := 4) (by simp [Ne.symm hne])).1
    rw [e, h.old] at h1
    simp [askK, ChkN, ofN] at h1
  generalize fgL [one] L = M at *
  rcases M with _ | ⟨s, _ | ⟨t, r⟩⟩
  · exact absurd rfl hne0
  · rfl
  · have h1 := hall s (by simp)
    have h2 := hall t (by simp)
    have h3 := (List.pairwise_cons.1 hp).1 t (by simp)
    omega

def ApLoop (w : World) (ops : List Opq) (vo : Value) (one other : Int) (m : Nat) (a : Act) (w' : World) : Prop :=
  ∃ (k : Nat) (L : List Sen) (v : Value), m = ops.length - k ∧ k ≤ ops.length ∧ AInv one other L ∧ L.length ≤ k + 1 ∧ RdD (fun x => w.heap.size ≤ x) w' v L ∧
    RepX (frame0 w) ⟨[(49, 0, .v (.int .i64 k)), (48, 0, .v (.int .i64 ops.length)), (47, 0, .v vo), (0, 0, .v vo), (1, 0, .v (.int .i64 one)), (2, 0, .v (.int .i64 other)), (8, 0, .v v), (6, 0, .v (.bool false)), (7, 0, .v (.bool true))], [], 0, 0, 125, [], [], []⟩ a w'
def ApJ (w : World) (ops : List Opq) (vo : Value) (one other : Int) (k : Nat) (a : Act) (w' : World) : Prop :=
  ∃ (L : List Sen) (v : Value), AInv one other L ∧ L.length ≤ k + 2 ∧ RdD (fun x => w.heap.size ≤ x) w' v L ∧
    RepX (frame0 w) ⟨[(49, 0, .v (.int .i64 k)), (48, 0, .v (.int .i64 ops.length)), (47, 0, .v vo), (0, 0, .v vo), (1, 0, .v (.int .i64 one)), (2, 0, .v (.int .i64 other)), (8, 0, .v v), (6, 0, .v (.bool false)), (7, 0, .v (.bool true))], [], 0, 0, 125, [], [], []⟩ a w'

set_option maxRecDepth 100000 in
set_option maxHeartbeats 64000000 in
/-- DedupApart. -/
theorem apart_ok (w : World) (v : Value) (ops : List Opq) (one other : Int) (hQ : RdQ (fun x => x < w.heap.size) w v ops) (hn : ops.length ≤ 1000000000000000) : Calls Try.prog 6 (denL [.v v, .v (.int .i64 one), .v (.int .i64 other)]).toArray w (Ret w (.v (.bool true))) := by
  obtain ⟨ad, cp, rfl⟩ := hQ.slice
  refine enter (F := frame0 w) Try.func6 rfl [.v (.slice ad ops.length cp), .v (.int .i64 one), .v (.int .i64 other)] [] (by simp [Try.f6]) trivial (keeps0 w) fun a hr => ?_
  refine seg cfg6_ok mixed PanicFree.body 1000 [] [] hr (by first | trivial | exact HpRep.nil | assumption) (by kernel_rfl) fun s_ hs_ => ?_
  simp (maxSteps := 10000000) [SX.vc, SX.stop, SX.contS, SX.contB, SX.contW, SX.contR, SX.contD, SX.sxStep, SX.stepPure, SX.stepNew, SX.stepStore, SX.stepKeep, SX.guardIx, SX.evOp, SX.opd, SX.opds, SX.optOpd, SX.look, SX.putS, SX.gobs, SX.AllP, SX.leave, SX.lookC, SX.lookB, SX.lookT, SX.lookN, SX.findK, SX.evBuiltin, SX.ints, SX.foldI, SX.evBin, SX.evInt, SX.evStr, SX.evEq, SX.arith, SX.evLoad, SX.shapeUp, SX.evFieldAddr, SX.evField, SX.evIndexAddr, SX.evIndex, SX.evFill, SX.evBuild, SX.szs, SX.cellsV, SX.evNew, SX.evStore, SX.spliceL, SX.SV.cells, SX.evConv, SX.evSlice, SX.bnd, SX.evNil, SX.evUn, SX.evPick, SX.pickOpd, SX.popTo, SX.cnd, SX.env0, SX.TD.isAgg, SX.TD.isIface, SX.tails, SX.NotAgg, SX.evLookup, SX.evConvH, SX.evPtrEq, SX.isCells, SX.thaw, SX.frz, SX.fixB, SX.rootIx, SX.Froz, SX.frzStep, SX.fork, Go.Value.cells, Go.undef, cfg6, Try.f6]
  refine ⟨by (unfold SX.Ob; first | trivial | omega | ((try simp only [SX.inK]); (try simp [SX.den, SX.IsU8, SX.AllP, *]); (try omega))), ?_⟩
  intro a1 w1 hr1 _
  refine post_call 7 [] hr1 (by first | exact wanted_none rfl | exact wanted_zero (hr1.env.same rfl rfl rfl rfl) rfl (by simp) | exact wanted_zero (hr1.env.same rfl rfl rfl rfl) rfl (by simp [*])) rfl (callable 7 Try.func7) (live_ok w1) ?_
  rintro e2 w2 ⟨rfl, hb2⟩
  refine ⟨_, rfl, ?_⟩
  have h2 := hr1.ret hb2 21 (.v (.bool true)) rfl _ (hr1.all.below hb2) (by simp) rfl
  by_cases hF : ops.length ≤ 100
  rotate_left
  · have hF' : (100 : Int) < (ops.length : Int) := by omega
    refine seg cfg6_ok mixed PanicFree.body 1000 [true] [(25, true), (29, true), (33, true)] h2 (by first | trivial | exact HpRep.nil | assumption) (by kernel_rfl) fun s_ hs_ => ?_
    simp (maxSteps := 10000000) [SX.vc, SX.stop, SX.contS, SX.contB, SX.contW, SX.contR, SX.contD, SX.sxStep, SX.stepPure, SX.stepNew, SX.stepStore, SX.stepKeep, SX.guardIx, SX.evOp, SX.opd, SX.opds, SX.optOpd, SX.look, SX.putS, SX.gobs, SX.AllP, SX.leave, SX.lookC, SX.lookB, SX.lookT, SX.lookN, SX.findK, SX.evBuiltin, SX.ints, SX.foldI, SX.evBin, SX.evInt, SX.evStr, SX.evEq, SX.arith, SX.evLoad, SX.shapeUp, SX.evFieldAddr, SX.evField, SX.evIndexAddr, SX.evIndex, SX.evFill, SX.evBuild, SX.szs, SX.cellsV, SX.evNew, SX.evStore, SX.spliceL, SX.SV.cells, SX.evConv, SX.evSlice, SX.bnd, SX.evNil, SX.evUn, SX.evPick, SX.pickOpd, SX.popTo, SX.cnd, SX.env0, SX.TD.isAgg, SX.TD.isIface, SX.tails, SX.NotAgg, SX.evLookup, SX.evConvH, SX.evPtrEq, SX.isCells, SX.thaw, SX.frz, SX.fixB, SX.rootIx, SX.Froz, SX.frzStep, SX.fork, Go.Value.cells, Go.undef, cfg6, hF']
    refine ⟨by (unfold SX.Ob; first | trivial | omega | ((try simp only [SX.inK]); (try simp [SX.den, SX.IsU8, SX.AllP, *]); (try omega))), ?_⟩
    intro a3 w3 hr3 _
    exact post_retn (end1 hr3 rfl rfl ⟨rfl, hr3.keeps.toBelow⟩).1
  have hF' : ¬ (100 : Int) < (ops.length : Int) := by omega
  by_cases c1 : one < 0
  · refine seg cfg6_ok mixed PanicFree.body 1000 [true] [(25, false), (29, true), (33, true)] h2 (by first | trivial | exact HpRep.nil | assumption) (by kernel_rfl) fun s_ hs_ => ?_
    simp (maxSteps := 10000000) [SX.vc, SX.stop, SX.contS, SX.contB, SX.contW, SX.contR, SX.contD, SX.sxStep, SX.stepPure, SX.stepNew, SX.stepStore, SX.stepKeep, SX.guardIx, SX.evOp, SX.opd, SX.opds, SX.optOpd, SX.look, SX.putS, SX.gobs, SX.AllP, SX.leave, SX.lookC, SX.lookB, SX.lookT, SX.lookN, SX.findK, SX.evBuiltin, SX.ints, SX.foldI, SX.evBin, SX.evInt, SX.evStr, SX.evEq, SX.arith, SX.evLoad, SX.shapeUp, SX.evFieldAddr, SX.evField, SX.evIndexAddr, SX.evIndex, SX.evFill, SX.evBuild, SX.szs, SX.cellsV, SX.evNew, SX.evStore, SX.spliceL, SX.SV.cells, SX.evConv, SX.evSlice, SX.bnd, SX.evNil, SX.evUn, SX.evPick, SX.pickOpd, SX.popTo, SX.cnd, SX.env0, SX.TD.isAgg, SX.TD.isIface, SX.tails, SX.NotAgg, SX.evLookup, SX.evConvH, SX.evPtrEq, SX.isCells, SX.thaw, SX.frz, SX.fixB, SX.rootIx, SX.Froz, SX.frzStep, SX.fork, Go.Value.cells, Go.undef, cfg6, hF', c1]
    refine ⟨by (unfold SX.Ob; first | trivial | omega | ((try simp only [SX.inK]); (try simp [SX.den, SX.IsU8, SX.AllP, *]); (try omega))), ?_⟩
    intro a3 w3 hr3 _
    exact post_retn (end1 hr3 rfl rfl ⟨rfl, hr3.keeps.toBelow⟩).1
  by_cases c2 : other < 0
  · refine seg cfg6_ok mixed PanicFree.body 1000 [true] [(25, false), (29, false), (33, true)] h2 (by first | trivial | exact HpRep.nil | assumption) (by kernel_rfl) fun s_ hs_ => ?_
    simp (maxSteps := 10000000) [SX.vc, SX.stop, SX.contS, SX.contB, SX.contW, SX.contR, SX.contD, SX.sxStep, SX.stepPure, SX.stepNew, SX.stepStore, SX.stepKeep, SX.guardIx, SX.evOp, SX.opd, SX.opds, SX.optOpd, SX.look, SX.putS, SX.gobs, SX.AllP, SX.leave, SX.lookC, SX.lookB, SX.lookT, SX.lookN, SX.findK, SX.evBuiltin, SX.ints, SX.foldI, SX.evBin, SX.evInt, SX.evStr, SX.evEq, SX.arith, SX.evLoad, SX.shapeUp, SX.evFieldAddr, SX.evField, SX.evIndexAddr, SX.evIndex, SX.evFill, SX.evBuild, SX.szs, SX.cellsV, SX.evNew, SX.evStore, SX.spliceL, SX.SV.cells, SX.evConv, SX.evSlice, SX.bnd, SX.evNil, SX.evUn, SX.evPick, SX.pickOpd, SX.popTo, SX.cnd, SX.env0, SX.TD.isAgg, SX.TD.isIface, SX.tails, SX.NotAgg, SX.evLookup, SX.evConvH, SX.evPtrEq, SX.isCells, SX.thaw, SX.frz, SX.fixB, SX.rootIx, SX.Froz, SX.frzStep, SX.fork, Go.Value.cells, Go.undef, cfg6, hF', c1, c2]
    refine ⟨by (unfold SX.Ob; first | trivial | omega | ((try simp only [SX.inK]); (try simp [SX.den, SX.IsU8, SX.AllP, *]); (try omega))), ?_⟩
    intro a3 w3 hr3 _
    exact post_retn (end1 hr3 rfl rfl ⟨rfl, hr3.keeps.toBelow⟩).1
  by_cases c3 : one = other
  · have c3' : (one == other) = true := by simpa using c3
    refine seg cfg6_ok mixed PanicFree.body 1000 [true] [(25, false), (29, false), (33, false)] h2 (by first | trivial | exact HpRep.nil | assumption) (by kernel_rfl) fun s_ hs_ => ?_
    simp (maxSteps := 10000000) [SX.vc, SX.stop, SX.contS, SX.contB, SX.contW, SX.contR, SX.contD, SX.sxStep, SX.stepPure, SX.stepNew, SX.stepStore, SX.stepKeep, SX.guardIx, SX.evOp, SX.opd, SX.opds, SX.optOpd, SX.look, SX.putS, SX.gobs, SX.AllP, SX.leave, SX.lookC, SX.lookB, SX.lookT, SX.lookN, SX.findK, SX.evBuiltin, SX.ints, SX.foldI, SX.evBin, SX.evInt, SX.evStr, SX.evEq, SX.arith, SX.evLoad, SX.shapeUp, SX.evFieldAddr, SX.evField, SX.evIndexAddr, SX.evIndex, SX.evFill, SX.evBuild, SX.szs, SX.cellsV, SX.evNew, SX.evStore, SX.spliceL, SX.SV.cells, SX.evConv, SX.evSlice, SX.bnd, SX.evNil, SX.evUn, SX.evPick, SX.pickOpd, SX.popTo, SX.cnd, SX.env0, SX.TD.isAgg, SX.TD.isIface, SX.tails, SX.NotAgg, SX.evLookup, SX.evConvH, SX.evPtrEq, SX.isCells, SX.thaw, SX.frz, SX.fixB, SX.rootIx, SX.Froz, SX.frzStep, SX.fork, Go.Value.cells, Go.undef, cfg6, hF', c1, c2, c3']
    refine ⟨by (unfold SX.Ob; first | trivial | omega | ((try simp only [SX.inK]); (try simp [SX.den, SX.IsU8, SX.AllP, *]); (try omega))), ?_⟩
    intro a3 w3 hr3 _
    exact post_retn (end1 hr3 rfl rfl ⟨rfl, hr3.keeps.toBelow⟩).1
  have c3' : (one == other) = false := by simpa using c3
  refine seg cfg6_ok mixed PanicFree.body 1000 [false] [(25, false), (29, false), (33, false)] h2 (by first | trivial | exact HpRep.nil | assumption) (by kernel_rfl) fun s_ hs_ => ?_
  simp (maxSteps := 10000000) [SX.vc, SX.stop, SX.contS, SX.contB, SX.contW, SX.contR, SX.contD, SX.sxStep, SX.stepPure, SX.stepNew, SX.stepStore, SX.stepKeep, SX.guardIx, SX.evOp, SX.opd, SX.opds, SX.optOpd, SX.look, SX.putS, SX.gobs, SX.AllP, SX.leave, SX.lookC, SX.lookB, SX.lookT, SX.lookN, SX.findK, SX.evBuiltin, SX.ints, SX.foldI, SX.evBin, SX.evInt, SX.evStr, SX.evEq, SX.arith, SX.evLoad, SX.shapeUp, SX.evFieldAddr, SX.evField, SX.evIndexAddr, SX.evIndex, SX.evFill, SX.evBuild, SX.szs, SX.cellsV, SX.evNew, SX.evStore, SX.spliceL, SX.SV.cells, SX.evConv, SX.evSlice, SX.bnd, SX.evNil, SX.evUn, SX.evPick, SX.pickOpd, SX.popTo, SX.cnd, SX.env0, SX.TD.isAgg, SX.TD.isIface, SX.tails, SX.NotAgg, SX.evLookup, SX.evConvH, SX.evPtrEq, SX.isCells, SX.thaw, SX.frz, SX.fixB, SX.rootIx, SX.Froz, SX.frzStep, SX.fork, Go.Value.cells, Go.undef, cfg6, hF', c1, c2, c3']
  refine ⟨by (unfold SX.Ob; first | trivial | omega | ((try simp only [SX.inK]); (try simp [SX.den, SX.IsU8, SX.AllP, *]); (try omega))), ?_⟩
  intro a3 w3 hr3 _
  have z3 : w.heap.size ≤ w3.heap.size := hr3.keeps.size
  have hE0 : doneE [] other 4 = 0 := (doneE_new (by omega)).2 (by simp [askK, ChkN, ofN])
  refine post_call 9 [.v (.slice none 0 0), .v (.int .i64 other), .v (.int .i64 4), .ag (mgC (mgK 77))] hr3 (by first | exact wanted_none rfl | exact wanted_zero (hr3.env.same rfl rfl rfl rfl) rfl (by simp) | exact wanted_zero (hr3.env.same rfl rfl rfl rfl) rfl (by simp [*])) rfl (callable 9 Try.func9) (done_ok (P := fun _ => False) w3 _ [] other 4 (mgK 77) RdD.nil smallN_nil (by simp) (by omega)) ?_
  rintro e4 w4 ⟨v4, L4, rfl, hR4a, hDT4, _, hb4⟩
  refine ⟨_, rfl, ?_⟩
  have h4 := hr3.ret hb4 42 (.tu [.v v4, .v (.int .i64 (doneE [] other 4))]) rfl _ (hr3.all.below hb4) (by simp) rfl
  have hd4 := hDT4 hE0
  have hI4 := AInv.first (one := one) hd4 (by omega)
  have hR4 := hR4a.mono (P' := fun x => w.heap.size ≤ x) fun x _ h => h.elim (fun h => h.elim) (fun h => Nat.le_trans z3 h)
  have hl4 : L4.length ≤ 1 := by have := hd4.len; simp at this; split at this <;> omega
  refine seg cfg6_ok mixed PanicFree.body 1000 [false] [] h4.rebase (by first | trivial | exact HpRep.nil | assumption) (by kernel_rfl) fun s_ hs_ => ?_
  simp (maxSteps := 10000000) [SX.vc, SX.stop, SX.contS, SX.contB, SX.contW, SX.contR, SX.contD, SX.sxStep, SX.stepPure, SX.stepNew, SX.stepStore, SX.stepKeep, SX.guardIx, SX.evOp, SX.opd, SX.opds, SX.optOpd, SX.look, SX.putS, SX.gobs, SX.AllP, SX.leave, SX.lookC, SX.lookB, SX.lookT, SX.lookN, SX.findK, SX.evBuiltin, SX.ints, SX.foldI, SX.evBin, SX.evInt, SX.evStr, SX.evEq, SX.arith, SX.evLoad, SX.shapeUp, SX.evFieldAddr, SX.evField, SX.evIndexAddr, SX.evIndex, SX.evFill, SX.evBuild, SX.szs, SX.cellsV, SX.evNew, SX.evStore, SX.spliceL, SX.SV.cells, SX.evConv, SX.evSlice, SX.bnd, SX.evNil, SX.evUn, SX.evPick, SX.pickOpd, SX.popTo, SX.cnd, SX.env0, SX.TD.isAgg, SX.TD.isIface, SX.tails, SX.NotAgg, SX.evLookup, SX.evConvH, SX.evPtrEq, SX.isCells, SX.thaw, SX.frz, SX.fixB, SX.rootIx, SX.Froz, SX.frzStep, SX.fork, Go.Value.cells, Go.undef, cfg6, hE0]
  refine ⟨by (unfold SX.Ob; first | trivial | omega | ((try simp only [SX.inK]); (try simp [SX.den, SX.IsU8, SX.AllP, *]); (try omega))), ?_⟩
  intro a5 w5 hr5' _
  have hr5 := h4.unbase hr5'
  have hR5 := hR4.keep hr5'.keeps (by simp [frameAt, mutB])
  refine post_loop (ApLoop w ops (.slice ad ops.length cp) one other) ops.length ⟨0, L4, v4, rfl, by omega, hI4, by omega, hR5, hr5.re (by simp [envTo, SX.look]) trivial rfl rfl⟩ ?_
  clear hr hr1 h2 hr3 h4 hr5' hr5 hR4 hR4a hR5 hDT4 hd4
  rintro m a6 w6 ⟨k, L, v, rfl, hk, hI, hlen, hR, hr6⟩
  by_cases hlt : k < ops.length
  · obtain ⟨b, o0, cap, u, fz, hP, hv, hrep⟩ := (hQ.below hr6.keeps.toBelow).opn hlt
    cases hv
    obtain ⟨o, ho⟩ : ∃ o, nth opq0 ops k = o := ⟨_, rfl⟩
    have z6 : w.heap.size ≤ w6.heap.size := hr6.keeps.size
    have h7 := (hr6.top 47 (.sl 0 b o0 0 ops.length cp 4) rfl (by simp [den])).see [(b, false, .arr o0 ops.length (fun j => opqC (nth opq0 ops j)) 4 u fz)] (HpAll.one hrep)
    by_cases d1 : 1152921504606846976 < o.id
    · refine seg cfg6_ok mixed PanicFree.body 1000 [true, true] [] h7 (by first | trivial | exact HpRep.nil | assumption) (by kernel_rfl) fun s_ hs_ => ?_
      simp (maxSteps := 10000000) [SX.vc, SX.stop, SX.contS, SX.contB, SX.contW, SX.contR, SX.contD, SX.sxStep, SX.stepPure, SX.stepNew, SX.stepStore, SX.stepKeep, SX.guardIx, SX.evOp, SX.opd, SX.opds, SX.optOpd, SX.look, SX.putS, SX.gobs, SX.AllP, SX.leave, SX.lookC, SX.lookB, SX.lookT, SX.lookN, SX.findK, SX.evBuiltin, SX.ints, SX.foldI, SX.evBin, SX.evInt, SX.evStr, SX.evEq, SX.arith, SX.evLoad, SX.shapeUp, SX.evFieldAddr, SX.evField, SX.evIndexAddr, SX.evIndex, SX.evFill, SX.evBuild, SX.szs, SX.cellsV, SX.evNew, SX.evStore, SX.spliceL, SX.SV.cells, SX.evConv, SX.evSlice, SX.bnd, SX.evNil, SX.evUn, SX.evPick, SX.pickOpd, SX.popTo, SX.cnd, SX.env0, SX.TD.isAgg, SX.TD.isIface, SX.tails, SX.NotAgg, SX.evLookup, SX.evConvH, SX.evPtrEq, SX.isCells, SX.thaw, SX.frz, SX.fixB, SX.rootIx, SX.Froz, SX.frzStep, SX.fork, Go.Value.cells, Go.undef, cfg6, opqC, ho, d1]
      refine ⟨by (unfold SX.Ob; first | trivial | omega | ((try simp only [SX.inK]); (try simp [SX.den, SX.IsU8, SX.AllP, *]); (try omega))), ?_⟩
      intro a8 w8 hr8 _
      exact post_retn (end1 hr8 rfl rfl ⟨rfl, hr8.keeps.toBelow⟩).1
    refine seg cfg6_ok mixed PanicFree.body 1000 [true, false] [] h7.rebase (by first | trivial | exact HpRep.nil | assumption) (by kernel_rfl) fun sO hsO => ?_
    simp (maxSteps := 10000000) [SX.vc, SX.stop, SX.contS, SX.contB, SX.contW, SX.contR, SX.contD, SX.sxStep, SX.stepPure, SX.stepNew, SX.stepStore, SX.stepKeep, SX.guardIx, SX.evOp, SX.opd, SX.opds, SX.optOpd, SX.look, SX.putS, SX.gobs, SX.AllP, SX.leave, SX.lookC, SX.lookB, SX.lookT, SX.lookN, SX.findK, SX.evBuiltin, SX.ints, SX.foldI, SX.evBin, SX.evInt, SX.evStr, SX.evEq, SX.arith, SX.evLoad, SX.shapeUp, SX.evFieldAddr, SX.evField, SX.evIndexAddr, SX.evIndex, SX.evFill, SX.evBuild, SX.szs, SX.cellsV, SX.evNew, SX.evStore, SX.spliceL, SX.SV.cells, SX.evConv, SX.evSlice, SX.bnd, SX.evNil, SX.evUn, SX.evPick, SX.pickOpd, SX.popTo, SX.cnd, SX.env0, SX.TD.isAgg, SX.TD.isIface, SX.tails, SX.NotAgg, SX.evLookup, SX.evConvH, SX.evPtrEq, SX.isCells, SX.thaw, SX.frz, SX.fixB, SX.rootIx, SX.Froz, SX.frzStep, SX.fork, Go.Value.cells, Go.undef, cfg6, opqC, ho, d1]
    refine ⟨by (unfold SX.Ob; first | trivial | omega | ((try simp only [SX.inK]); (try simp [SX.den, SX.IsU8, SX.AllP, *]); (try omega))), ?_⟩
    intro a8 w8 hr8' _
    have hr8 := h7.unbase hr8'
    have z8 : w.heap.size ≤ w8.heap.size := hr8.keeps.size
    have hR8 := hR.keep hr8'.keeps (by simp [frameAt, mutB])
    refine post_call 9 [.v v, .v (.int .i64 one), .v (.int .i64 o.id), .ag (mgC (mgK o.kind))] hr8 (by first | exact wanted_none rfl | exact wanted_zero (hr8.env.same rfl rfl rfl rfl) rfl (by simp) | exact wanted_zero (hr8.env.same rfl rfl rfl rfl) rfl (by simp [*])) rfl (callable 9 Try.func9) (done_ok w8 v L one o.id (mgK o.kind) hR8 hI.small (by omega) (by omega)) ?_
    rintro e9 w9 ⟨v9, L9, rfl, hR9a, hDT9, _, hb9⟩
    refine ⟨_, rfl, ?_⟩
    have h9a := hr8.ret hb9 65 (.tu [.v v9, .v (.int .i64 (doneE L one o.id))]) rfl _ (hr8.all.below hb9) (by simp) rfl
    have h9 := h9a.see [] trivial
    have hR9 := hR9a.mono (P' := fun x => w.heap.size ≤ x) fun x _ h => by omega
    have hRo := hR8.below hb9
    refine seg cfg6_ok mixed PanicFree.body 1000 [] [] h9.rebase (by first | trivial | exact HpRep.nil | assumption) (by kernel_rfl) fun s_ hs_ => ?_
    simp (maxSteps := 10000000) [SX.vc, SX.stop, SX.contS, SX.contB, SX.contW, SX.contR, SX.contD, SX.sxStep, SX.stepPure, SX.stepNew, SX.stepStore, SX.stepKeep, SX.guardIx, SX.evOp, SX.opd, SX.opds, SX.optOpd, SX.look, SX.putS, SX.gobs, SX.AllP, SX.leave, SX.lookC, SX.lookB, SX.lookT, SX.lookN, SX.findK, SX.evBuiltin, SX.ints, SX.foldI, SX.evBin, SX.evInt, SX.evStr, SX.evEq, SX.arith, SX.evLoad, SX.shapeUp, SX.evFieldAddr, SX.evField, SX.evIndexAddr, SX.evIndex, SX.evFill, SX.evBuild, SX.szs, SX.cellsV, SX.evNew, SX.evStore, SX.spliceL, SX.SV.cells, SX.evConv, SX.evSlice, SX.bnd, SX.evNil, SX.evUn, SX.evPick, SX.pickOpd, SX.popTo, SX.cnd, SX.env0, SX.TD.isAgg, SX.TD.isIface, SX.tails, SX.NotAgg, SX.evLookup, SX.evConvH, SX.evPtrEq, SX.isCells, SX.thaw, SX.frz, SX.fixB, SX.rootIx, SX.Froz, SX.frzStep, SX.fork, Go.Value.cells, Go.undef, cfg6]
    refine ⟨by (unfold SX.Ob; first | trivial | omega | ((try simp only [SX.inK]); (try simp [SX.den, SX.IsU8, SX.AllP, *]); (try omega))), ?_⟩
    intro a10 w10 hr10' _
    have hr10 := h9.unbase hr10'
    have hR10 := hR9.keep hr10'.keeps (by simp [frameAt, mutB])
    have hRo10 := hRo.keep hr10'.keeps (by simp [frameAt, mutB])
    refine post_cut (ApJ w ops (.slice (some ⟨b, o0, none⟩) ops.length cp) one other k) 1 rfl ?_ fun a11 w11 hJ => ?_
    · by_cases hE : doneE L one o.id = 0
      · have hd := hDT9 hE
        have hl9 : L9.length ≤ k + 2 := by have := hd.len; split at this <;> omega
        refine seg cfg6_ok mixed PanicFree.body 1000 [true] [] hr10.rebase (by first | trivial | exact HpRep.nil | assumption) (by kernel_rfl) fun s_ hs_ => ?_
        simp (maxSteps := 10000000) [SX.vc, SX.stop, SX.contS, SX.contB, SX.contW, SX.contR, SX.contD, SX.sxStep, SX.stepPure, SX.stepNew, SX.stepStore, SX.stepKeep, SX.guardIx, SX.evOp, SX.opd, SX.opds, SX.optOpd, SX.look, SX.putS, SX.gobs, SX.AllP, SX.leave, SX.lookC, SX.lookB, SX.lookT, SX.lookN, SX.findK, SX.evBuiltin, SX.ints, SX.foldI, SX.evBin, SX.evInt, SX.evStr, SX.evEq, SX.arith, SX.evLoad, SX.shapeUp, SX.evFieldAddr, SX.evField, SX.evIndexAddr, SX.evIndex, SX.evFill, SX.evBuild, SX.szs, SX.cellsV, SX.evNew, SX.evStore, SX.spliceL, SX.SV.cells, SX.evConv, SX.evSlice, SX.bnd, SX.evNil, SX.evUn, SX.evPick, SX.pickOpd, SX.popTo, SX.cnd, SX.env0, SX.TD.isAgg, SX.TD.isIface, SX.tails, SX.NotAgg, SX.evLookup, SX.evConvH, SX.evPtrEq, SX.isCells, SX.thaw, SX.frz, SX.fixB, SX.rootIx, SX.Froz, SX.frzStep, SX.fork, Go.Value.cells, Go.undef, cfg6, hE]
        refine ⟨by (unfold SX.Ob; first | trivial | omega | ((try simp only [SX.inK]); (try simp [SX.den, SX.IsU8, SX.AllP, *]); (try omega))), ?_⟩
        intro a11 w11 hr11' _
        have hr11 := hr10.unbase hr11'
        exact post_inv ⟨L9, v9, hI.step hd (by show o.id ≤ _; omega) c3, hl9, hR10.keep hr11'.keeps (by simp [frameAt, mutB]), hr11.re (by simp [envTo, SX.look, den]) trivial rfl rfl⟩
      · have hE' : (doneE L one o.id == 0) = false := by simpa using hE
        refine seg cfg6_ok mixed PanicFree.body 1000 [false] [] hr10.rebase (by first | trivial | exact HpRep.nil | assumption) (by kernel_rfl) fun s_ hs_ => ?_
        simp (maxSteps := 10000000) [SX.vc, SX.stop, SX.contS, SX.contB, SX.contW, SX.contR, SX.contD, SX.sxStep, SX.stepPure, SX.stepNew, SX.stepStore, SX.stepKeep, SX.guardIx, SX.evOp, SX.opd, SX.opds, SX.optOpd, SX.look, SX.putS, SX.gobs, SX.AllP, SX.leave, SX.lookC, SX.lookB, SX.lookT, SX.lookN, SX.findK, SX.evBuiltin, SX.ints, SX.foldI, SX.evBin, SX.evInt, SX.evStr, SX.evEq, SX.arith, SX.evLoad, SX.shapeUp, SX.evFieldAddr, SX.evField, SX.evIndexAddr, SX.evIndex, SX.evFill, SX.evBuild, SX.szs, SX.cellsV, SX.evNew, SX.evStore, SX.spliceL, SX.SV.cells, SX.evConv, SX.evSlice, SX.bnd, SX.evNil, SX.evUn, SX.evPick, SX.pickOpd, SX.popTo, SX.cnd, SX.env0, SX.TD.isAgg, SX.TD.isIface, SX.tails, SX.NotAgg, SX.evLookup, SX.evConvH, SX.evPtrEq, SX.isCells, SX.thaw, SX.frz, SX.fixB, SX.rootIx, SX.Froz, SX.frzStep, SX.fork, Go.Value.cells, Go.undef, cfg6, hE']
        refine ⟨by (unfold SX.Ob; first | trivial | omega | ((try simp only [SX.inK]); (try simp [SX.den, SX.IsU8, SX.AllP, *]); (try omega))), ?_⟩
        intro a11 w11 hr11' _
        have hr11 := hr10.unbase hr11'
        exact post_inv ⟨L, v, hI, by omega, hRo10.keep hr11'.keeps (by simp [frameAt, mutB]), hr11.re (by simp [envTo, SX.look, den]) trivial rfl rfl⟩
    clear hI hR hR8 hR9 hR10 hRo hRo10 hR9a hr6 h7 hr8' hr8 h9a h9 hr10' hr10 hlen hDT9
    obtain ⟨L, v, hI, hlen, hR, hr11⟩ := hJ
    have hK1 := hI.old
    have hM1 := hI.msg
    refine seg cfg6_ok mixed PanicFree.body 1000 [] [] hr11.rebase (by first | trivial | exact HpRep.nil | assumption) (by kernel_rfl) fun s_ hs_ => ?_
    simp (maxSteps := 10000000) [SX.vc, SX.stop, SX.contS, SX.contB, SX.contW, SX.contR, SX.contD, SX.sxStep, SX.stepPure, SX.stepNew, SX.stepStore, SX.stepKeep, SX.guardIx, SX.evOp, SX.opd, SX.opds, SX.optOpd, SX.look, SX.putS, SX.gobs, SX.AllP, SX.leave, SX.lookC, SX.lookB, SX.lookT, SX.lookN, SX.findK, SX.evBuiltin, SX.ints, SX.foldI, SX.evBin, SX.evInt, SX.evStr, SX.evEq, SX.arith, SX.evLoad, SX.shapeUp, SX.evFieldAddr, SX.evField, SX.evIndexAddr, SX.evIndex, SX.evFill, SX.evBuild, SX.szs, SX.cellsV, SX.evNew, SX.evStore, SX.spliceL, SX.SV.cells, SX.evConv, SX.evSlice, SX.bnd, SX.evNil, SX.evUn, SX.evPick, SX.pickOpd, SX.popTo, SX.cnd, SX.env0, SX.TD.isAgg, SX.TD.isIface, SX.tails, SX.NotAgg, SX.evLookup, SX.evConvH, SX.evPtrEq, SX.isCells, SX.thaw, SX.frz, SX.fixB, SX.rootIx, SX.Froz, SX.frzStep, SX.fork, Go.Value.cells, Go.undef, cfg6]
    refine ⟨by (unfold SX.Ob; first | trivial | omega | ((try simp only [SX.inK]); (try simp [SX.den, SX.IsU8, SX.AllP, *]); (try omega))), ?_⟩
    intro a12 w12 hr12' _
    have hr12 := hr11.unbase hr12'
    have hR12 := hR.keep hr12'.keeps (by simp [frameAt, mutB])
    refine post_call 8 [.v v, .v (.int .i64 other), .v (.int .i64 4)] hr12 (by first | exact wanted_none rfl | exact wanted_zero (hr12.env.same rfl rfl rfl rfl) rfl (by simp) | exact wanted_zero (hr12.env.same rfl rfl rfl rfl) rfl (by simp [*])) rfl (callable 8 Try.func8) (ask_ok w12 v L other 4 hR12 hI.small (by omega)) ?_
    rintro e13 w13 ⟨rfl, hb13⟩
    refine ⟨_, rfl, ?_⟩
    have h13 := hr12.ret hb13 74 (.tu [.ag (mgC (askM L other 4)), .v (.int .i64 (askK L other 4))]) rfl _ (hr12.all.below hb13) (by simp) rfl
    refine seg cfg6_ok mixed PanicFree.body 1000 [false] [(79, false)] h13.rebase (by first | trivial | exact HpRep.nil | assumption) (by kernel_rfl) fun s_ hs_ => ?_
    simp (maxSteps := 10000000) [SX.vc, SX.stop, SX.contS, SX.contB, SX.contW, SX.contR, SX.contD, SX.sxStep, SX.stepPure, SX.stepNew, SX.stepStore, SX.stepKeep, SX.guardIx, SX.evOp, SX.opd, SX.opds, SX.optOpd, SX.look, SX.putS, SX.gobs, SX.AllP, SX.leave, SX.lookC, SX.lookB, SX.lookT, SX.lookN, SX.findK, SX.evBuiltin, SX.ints, SX.foldI, SX.evBin, SX.evInt, SX.evStr, SX.evEq, SX.arith, SX.evLoad, SX.shapeUp, SX.evFieldAddr, SX.evField, SX.evIndexAddr, SX.evIndex, SX.evFill, SX.evBuild, SX.szs, SX.cellsV, SX.evNew, SX.evStore, SX.spliceL, SX.SV.cells, SX.evConv, SX.evSlice, SX.bnd, SX.evNil, SX.evUn, SX.evPick, SX.pickOpd, SX.popTo, SX.cnd, SX.env0, SX.TD.isAgg, SX.TD.isIface, SX.tails, SX.NotAgg, SX.evLookup, SX.evConvH, SX.evPtrEq, SX.isCells, SX.thaw, SX.frz, SX.fixB, SX.rootIx, SX.Froz, SX.frzStep, SX.fork, Go.Value.cells, Go.undef, cfg6, hK1, hM1, mgC, mgK]
    refine ⟨by (unfold SX.Ob; first | trivial | omega | ((try simp only [SX.inK]); (try simp [SX.den, SX.IsU8, SX.AllP, *]); (try omega))), ?_⟩
    intro a14 w14 hr14' _
    have hr14 := h13.unbase hr14'
    exact post_rnd (ops.length - (k + 1)) (by omega) ⟨k + 1, L, v, rfl, hlt, hI, by omega, (hR12.below hb13).keep hr14'.keeps (by simp [frameAt, mutB]), hr14.re (by simp [envTo, SX.look, den]) trivial rfl rfl⟩
  · obtain rfl : k = ops.length := by omega
    have z6 : w.heap.size ≤ w6.heap.size := hr6.keeps.size
    refine seg cfg6_ok mixed PanicFree.body 1000 [false] [] hr6.rebase (by first | trivial | exact HpRep.nil | assumption) (by kernel_rfl) fun sF hsF => ?_
    simp (maxSteps := 10000000) [SX.vc, SX.stop, SX.contS, SX.contB, SX.contW, SX.contR, SX.contD, SX.sxStep, SX.stepPure, SX.stepNew, SX.stepStore, SX.stepKeep, SX.guardIx, SX.evOp, SX.opd, SX.opds, SX.optOpd, SX.look, SX.putS, SX.gobs, SX.AllP, SX.leave, SX.lookC, SX.lookB, SX.lookT, SX.lookN, SX.findK, SX.evBuiltin, SX.ints, SX.foldI, SX.evBin, SX.evInt, SX.evStr, SX.evEq, SX.arith, SX.evLoad, SX.shapeUp, SX.evFieldAddr, SX.evField, SX.evIndexAddr, SX.evIndex, SX.evFill, SX.evBuild, SX.szs, SX.cellsV, SX.evNew, SX.evStore, SX.spliceL, SX.SV.cells, SX.evConv, SX.evSlice, SX.bnd, SX.evNil, SX.evUn, SX.evPick, SX.pickOpd, SX.popTo, SX.cnd, SX.env0, SX.TD.isAgg, SX.TD.isIface, SX.tails, SX.NotAgg, SX.evLookup, SX.evConvH, SX.evPtrEq, SX.isCells, SX.thaw, SX.frz, SX.fixB, SX.rootIx, SX.Froz, SX.frzStep, SX.fork, Go.Value.cells, Go.undef, cfg6]
    refine ⟨by (unfold SX.Ob; first | trivial | omega | ((try simp only [SX.inK]); (try simp [SX.den, SX.IsU8, SX.AllP, *]); (try omega))), ?_⟩
    intro a7 w7 hr7' _
    have hr7 := hr6.unbase hr7'
    have hR7 := hR.keep hr7'.keeps (by simp [frameAt, mutB])
    have z7 : w.heap.size ≤ w7.heap.size := hr7.keeps.size
    have hlit := RdS.lit (enc := intC) (sz := 1) (d := (0 : Int)) (x := one) hr7.all.1.1 (by simp [intC])
    refine post_call 15 [.v v, .sl 0 sF 0 0 1 1 1] hr7 (by first | exact wanted_none rfl | exact wanted_zero (hr7.env.same rfl rfl rfl rfl) rfl (by simp) | exact wanted_zero (hr7.env.same rfl rfl rfl rfl) rfl (by simp [*])) rfl (callable 15 Try.func15) (forget_ok w7 v _ L [one] hR7 hlit hI.chk hI.small (by omega) (by simp)) ?_
    rintro e8 w8 ⟨v8, rfl, hR8a, hb8⟩
    refine ⟨_, rfl, ?_⟩
    have h8a := hr7.ret hb8 88 (.v v8) rfl _ (hr7.all.below hb8) (by simp) rfl
    have h8 := h8a.see [] trivial
    have hR8 : RdD (fun x => w.heap.size ≤ x) w8 v8 (fgL [one] L) := hR8a.mono fun x _ h => by omega
    have hlf := hI.len c3
    obtain ⟨ad8, n8, cp8, rfl, hn8⟩ : ∃ ad n cp, v8 = Value.slice ad n cp ∧ n = 1 := by
      obtain ⟨x1, x2, h1⟩ := hR8.1.slice
      exact ⟨_, _, _, h1, hlf⟩
    obtain ⟨kk, km⟩ := fg_ask (K := [one]) hI.chk (g := other) (i := 4) (by simp [Ne.symm c3])
    have hK1 := kk.trans hI.old
    have hM1 := km.trans hI.msg
    have hK0 := fg_new (K := [one]) hI.chk (g := one) (i := 0) (by simp) (by omega)
    have hS8 := fg_small (K := [one]) hI.small
    have hcL : chkN L = 0 := if_pos hI.chk
    refine seg cfg6_ok mixed PanicFree.body 1000 [] [] h8.rebase (by first | trivial | exact HpRep.nil | assumption) (by kernel_rfl) fun s_ hs_ => ?_
    simp (maxSteps := 10000000) [SX.vc, SX.stop, SX.contS, SX.contB, SX.contW, SX.contR, SX.contD, SX.sxStep, SX.stepPure, SX.stepNew, SX.stepStore, SX.stepKeep, SX.guardIx, SX.evOp, SX.opd, SX.opds, SX.optOpd, SX.look, SX.putS, SX.gobs, SX.AllP, SX.leave, SX.lookC, SX.lookB, SX.lookT, SX.lookN, SX.findK, SX.evBuiltin, SX.ints, SX.foldI, SX.evBin, SX.evInt, SX.evStr, SX.evEq, SX.arith, SX.evLoad, SX.shapeUp, SX.evFieldAddr, SX.evField, SX.evIndexAddr, SX.evIndex, SX.evFill, SX.evBuild, SX.szs, SX.cellsV, SX.evNew, SX.evStore, SX.spliceL, SX.SV.cells, SX.evConv, SX.evSlice, SX.bnd, SX.evNil, SX.evUn, SX.evPick, SX.pickOpd, SX.popTo, SX.cnd, SX.env0, SX.TD.isAgg, SX.TD.isIface, SX.tails, SX.NotAgg, SX.evLookup, SX.evConvH, SX.evPtrEq, SX.isCells, SX.thaw, SX.frz, SX.fixB, SX.rootIx, SX.Froz, SX.frzStep, SX.fork, Go.Value.cells, Go.undef, cfg6]
    refine ⟨by (unfold SX.Ob; first | trivial | omega | ((try simp only [SX.inK]); (try simp [SX.den, SX.IsU8, SX.AllP, *]); (try omega))), ?_⟩
    intro a9 w9 hr9' _
    have hr9 := h8.unbase hr9'
    have hR9 := hR8.keep hr9'.keeps (by simp [frameAt, mutB])
    have hV9 := (hR7.below hb8).keep hr9'.keeps (by simp [frameAt, mutB])
    refine post_call 8 [.v (.slice ad8 n8 cp8), .v (.int .i64 other), .v (.int .i64 4)] hr9 (by first | exact wanted_none rfl | exact wanted_zero (hr9.env.same rfl rfl rfl rfl) rfl (by simp) | exact wanted_zero (hr9.env.same rfl rfl rfl rfl) rfl (by simp [*])) rfl (callable 8 Try.func8) (ask_ok w9 _ (fgL [one] L) other 4 hR9 hS8 (by omega)) ?_
    rintro e10 w10 ⟨rfl, hb10⟩
    refine ⟨_, rfl, ?_⟩
    have h10 := hr9.ret hb10 92 (.tu [.ag (mgC (askM (fgL [one] L) other 4)), .v (.int .i64 (askK (fgL [one] L) other 4))]) rfl _ (hr9.all.below hb10) (by simp) rfl
    refine seg cfg6_ok mixed PanicFree.body 1000 [] [] h10.rebase (by first | trivial | exact HpRep.nil | assumption) (by kernel_rfl) fun sA hsA => ?_
    simp (maxSteps := 10000000) [SX.vc, SX.stop, SX.contS, SX.contB, SX.contW, SX.contR, SX.contD, SX.sxStep, SX.stepPure, SX.stepNew, SX.stepStore, SX.stepKeep, SX.guardIx, SX.evOp, SX.opd, SX.opds, SX.optOpd, SX.look, SX.putS, SX.gobs, SX.AllP, SX.leave, SX.lookC, SX.lookB, SX.lookT, SX.lookN, SX.findK, SX.evBuiltin, SX.ints, SX.foldI, SX.evBin, SX.evInt, SX.evStr, SX.evEq, SX.arith, SX.evLoad, SX.shapeUp, SX.evFieldAddr, SX.evField, SX.evIndexAddr, SX.evIndex, SX.evFill, SX.evBuild, SX.szs, SX.cellsV, SX.evNew, SX.evStore, SX.spliceL, SX.SV.cells, SX.evConv, SX.evSlice, SX.bnd, SX.evNil, SX.evUn, SX.evPick, SX.pickOpd, SX.popTo, SX.cnd, SX.env0, SX.TD.isAgg, SX.TD.isIface, SX.tails, SX.NotAgg, SX.evLookup, SX.evConvH, SX.evPtrEq, SX.isCells, SX.thaw, SX.frz, SX.fixB, SX.rootIx, SX.Froz, SX.frzStep, SX.fork, Go.Value.cells, Go.undef, cfg6, hK1, hM1, mgC, mgK]
    refine ⟨by (unfold SX.Ob; first | trivial | omega | ((try simp only [SX.inK]); (try simp [SX.den, SX.IsU8, SX.AllP, *]); (try omega))), ?_⟩
    intro a11 w11 hr11' _
    have hr11 := h10.unbase hr11'
    have hR11 := (hR9.below hb10).keep hr11'.keeps (by simp [frameAt, mutB])
    have hV11 := (hV9.below hb10).keep hr11'.keeps (by simp [frameAt, mutB])
    refine post_call 8 [.v (.slice ad8 n8 cp8), .v (.int .i64 one), .v (.int .i64 0)] hr11 (by first | exact wanted_none rfl | exact wanted_zero (hr11.env.same rfl rfl rfl rfl) rfl (by simp) | exact wanted_zero (hr11.env.same rfl rfl rfl rfl) rfl (by simp [*])) rfl (callable 8 Try.func8) (ask_ok w11 _ (fgL [one] L) one 0 hR11 hS8 (by omega)) ?_
    rintro e12 w12 ⟨rfl, hb12⟩
    refine ⟨_, rfl, ?_⟩
    have h12 := hr11.ret hb12 98 (.tu [.ag (mgC (askM (fgL [one] L) one 0)), .v (.int .i64 (askK (fgL [one] L) one 0))]) rfl _ (hr11.all.below hb12) (by simp) rfl
    have hV12 := hV11.below hb12
    have hA12 := h12.all
    have lA := SO.rep_lt hr11.all.1.1
    have h12b := h12.see [(sA, false, .cells [.v (.int .i64 77), .v (.int .i64 0), .v (.int .i64 0), .v (.int .i64 0), .v (.slice none 0 0), .v (.slice none 0 0)] 33)] (HpAll.one hA12.1.1)
    refine seg cfg6_ok mixed PanicFree.body 1000 [] [(102, true), (107, true), (111, true), (116, true), (120, true)] h12b.rebase (by first | trivial | exact HpRep.nil | assumption) (by kernel_rfl) fun s_ hs_ => ?_
    simp (maxSteps := 10000000) [SX.vc, SX.stop, SX.contS, SX.contB, SX.contW, SX.contR, SX.contD, SX.sxStep, SX.stepPure, SX.stepNew, SX.stepStore, SX.stepKeep, SX.guardIx, SX.evOp, SX.opd, SX.opds, SX.optOpd, SX.look, SX.putS, SX.gobs, SX.AllP, SX.leave, SX.lookC, SX.lookB, SX.lookT, SX.lookN, SX.findK, SX.evBuiltin, SX.ints, SX.foldI, SX.evBin, SX.evInt, SX.evStr, SX.evEq, SX.arith, SX.evLoad, SX.shapeUp, SX.evFieldAddr, SX.evField, SX.evIndexAddr, SX.evIndex, SX.evFill, SX.evBuild, SX.szs, SX.cellsV, SX.evNew, SX.evStore, SX.spliceL, SX.SV.cells, SX.evConv, SX.evSlice, SX.bnd, SX.evNil, SX.evUn, SX.evPick, SX.pickOpd, SX.popTo, SX.cnd, SX.env0, SX.TD.isAgg, SX.TD.isIface, SX.tails, SX.NotAgg, SX.evLookup, SX.evConvH, SX.evPtrEq, SX.isCells, SX.thaw, SX.frz, SX.fixB, SX.rootIx, SX.Froz, SX.frzStep, SX.fork, Go.Value.cells, Go.undef, cfg6, hK0, mgC, hn8]
    refine ⟨by (unfold SX.Ob; first | trivial | omega | ((try simp only [SX.inK]); (try simp [SX.den, SX.IsU8, SX.AllP, *]); (try omega))), ?_⟩
    intro a13 w13 hr13' _
    have hr13 := h12b.unbase hr13'
    have hV13 := hV12.keep hr13'.keeps (by simp [frameAt, mutB])
    refine post_call 13 [.v v] hr13 (by first | exact wanted_none rfl | exact wanted_zero (hr13.env.same rfl rfl rfl rfl) rfl (by simp) | exact wanted_zero (hr13.env.same rfl rfl rfl rfl) rfl (by simp [*])) rfl (callable 13 Try.func13) (check_ok w13 v L hV13 hI.small (by omega)) ?_
    rintro e14 w14 ⟨rfl, hb14⟩
    refine ⟨_, rfl, ?_⟩
    have h14 := hr13.ret hb14 122 (.v (.int .i64 (chkN L))) rfl _ (hr13.all.below hb14) (by simp) rfl
    refine seg cfg6_ok mixed PanicFree.body 1000 [] [(102, true), (107, true), (111, true), (116, true), (120, true)] h14 (by first | trivial | exact HpRep.nil | assumption) (by kernel_rfl) fun s_ hs_ => ?_
    simp (maxSteps := 10000000) [SX.vc, SX.stop, SX.contS, SX.contB, SX.contW, SX.contR, SX.contD, SX.sxStep, SX.stepPure, SX.stepNew, SX.stepStore, SX.stepKeep, SX.guardIx, SX.evOp, SX.opd, SX.opds, SX.optOpd, SX.look, SX.putS, SX.gobs, SX.AllP, SX.leave, SX.lookC, SX.lookB, SX.lookT, SX.lookN, SX.findK, SX.evBuiltin, SX.ints, SX.foldI, SX.evBin, SX.evInt, SX.evStr, SX.evEq, SX.arith, SX.evLoad, SX.shapeUp, SX.evFieldAddr, SX.evField, SX.evIndexAddr, SX.evIndex, SX.evFill, SX.evBuild, SX.szs, SX.cellsV, SX.evNew, SX.evStore, SX.spliceL, SX.SV.cells, SX.evConv, SX.evSlice, SX.bnd, SX.evNil, SX.evUn, SX.evPick, SX.pickOpd, SX.popTo, SX.cnd, SX.env0, SX.TD.isAgg, SX.TD.isIface, SX.tails, SX.NotAgg, SX.evLookup, SX.evConvH, SX.evPtrEq, SX.isCells, SX.thaw, SX.frz, SX.fixB, SX.rootIx, SX.Froz, SX.frzStep, SX.fork, Go.Value.cells, Go.undef, cfg6, hcL, hn8]
    refine ⟨by (unfold SX.Ob; first | trivial | omega | ((try simp only [SX.inK]); (try simp [SX.den, SX.IsU8, SX.AllP, *]); (try omega))), ?_⟩
    intro a15 w15 hr15 _
    exact post_retn (end1 hr15 rfl rfl ⟨by simp [den], hr15.keeps.toBelow⟩).1
end Go.Proofs
