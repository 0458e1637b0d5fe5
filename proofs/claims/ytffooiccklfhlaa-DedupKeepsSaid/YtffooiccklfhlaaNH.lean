/- Requests: Done. -/
import Derived.Test.YtffooiccklfhlaaNF
import Derived.Test.YtffooiccklfhlaaNG
namespace Go.Proofs
set_option linter.unusedVariables false
set_option linter.unusedSimpArgs false
set_option linter.unusedSectionVars false
open Go Go.SX Go.RowKit

theorem DoneTo.small {L L' : List Sen} {f : Int} {x : Sad} (h : DoneTo L f x L') (hS : SmallN L) (hx : x.id ≤ 1152921504606846976) : SmallN L' := by
  intro t ht
  have hp := (chkN_pw.1 h.chk).2
  have hof := ofN_mem hp ht
  by_cases hf : t.frm = f
  · obtain ⟨s', hs', hU⟩ := h.self
    rw [hf, hs'] at hof
    cases hof
    have hg : (getN L f).below ≤ 1152921504606846977 ∧ ∀ y ∈ (getN L f).S, y.id ≤ 1152921504606846976 := by
      unfold getN
      rcases ho : ofN L f with _ | s
      · simp [newN]
      · exact hS s (ofN_some ho).1
    obtain ⟨_, q, hq, _, hA, hB⟩ := hU
    have hm : ∀ y ∈ (getN L f).S.take q ++ x :: (getN L f).S.drop q, y.id ≤ 1152921504606846976 := fun y hy => by
      rcases List.mem_append.1 hy with hy | hy
      · exact hg.2 y (List.mem_of_mem_take hy)
      rcases List.mem_cons.1 hy with rfl | hy
      · exact hx
      · exact hg.2 y (List.mem_of_mem_drop hy)
    by_cases h8 : (getN L f).S.length < 8
    · obtain ⟨e1, e2⟩ := hA h8
      rw [e1, e2]
      exact ⟨hg.1, hm⟩
    · obtain ⟨e1, e2⟩ := hB (by omega)
      rw [e1, e2]
      refine ⟨?_, fun y hy => hm y (List.mem_of_mem_drop hy)⟩
      have := hm (nth sad0 _ 0) (nth_mem (d := sad0) (j := 0) (L := (getN L f).S.take q ++ x :: (getN L f).S.drop q) (by simp; omega))
      omega
  · rw [h.other _ hf] at hof
    exact hS t (ofN_some hof).1

/-- What Done tells. -/
def doneE (L : List Sen) (f i : Int) : Int := if f < 0 ∨ i < 0 ∨ ¬ ChkN (-1) L then 1 else if askK L f i = 2 then 61 else if askK L f i = 1 then 60 else 0
def DoneR (P : Nat → Prop) (w : World) (L : List Sen) (f i : Int) (m : Mg) (e : Ending) (w' : World) : Prop :=
  ∃ v' L', e = .returned (den (.tu [.v v', .v (.int .i64 (doneE L f i))])) ∧ RdD (fun x => P x ∨ w.heap.size ≤ x) w' v' L' ∧ (doneE L f i = 0 → DoneTo L f ⟨i, m⟩ L') ∧ (doneE L f i ≠ 0 → v' = .slice none 0 0 ∧ L' = []) ∧ Below w.heap.size w w'
theorem DoneR.bad {P : Nat → Prop} {w w' : World} {L : List Sen} {f i : Int} {m : Mg} {k : Int} (hk : doneE L f i = k) (h0 : k ≠ 0) (hb : Below w.heap.size w w') : DoneR P w L f i m (.returned (den (.tu [.v (.slice none 0 0), .v (.int .i64 k)]))) w' :=
  ⟨.slice none 0 0, [], by rw [hk], RdD.nil, fun h => absurd (hk.symm.trans h) h0, fun _ => ⟨rfl, rfl⟩, hb⟩

def DnJ (P : Nat → Prop) (w : World) (L : List Sen) (f i : Int) (m : Mg) (sM : Nat) (a : Act) (w' : World) : Prop :=
  ∃ (L1 : List Sen) (k : Nat) (s : Sen) (ad : Option Addr) (cp : Nat) (z : Nat), InsN L f L1 k s ∧ w.heap.size ≤ z ∧ sM < z ∧ OwN (fun x => z ≤ x) w' (.slice ad L1.length cp) L1 ∧ L1.length ≤ 1000000 ∧
    RepX (frame0 w) ⟨[(12, 0, .v (.slice ad L1.length cp)), (13, 0, .v (.int .i64 k)), (1, 0, .v (.int .i64 f)), (2, 0, .v (.int .i64 i)), (7, 0, .ptr 0 sM 0)], [(sM, true, .cells (mgC m) 33)], 0, 0, 108, [], [], []⟩ a w'

theorem HpRep.to {H : Hp} {w w' : World} {M : List Nat} (h : HpRep H w) (hk : KeepsTo w M w') (hM : ∀ e ∈ H, e.1 ∉ M) : HpRep H w' := fun i b m o hi => hk.same (h i b m o hi) (hM _ (List.mem_of_getElem? hi))
theorem nth_set {α : Type} {d x : α} {L : List α} {k j : Nat} (h : k < L.length) : nth d (L.set k x) j = if j = k then x else nth d L j := by
  unfold nth
  simp only [List.getD_eq_getElem?_getD, List.getElem?_set]
  by_cases e : k = j
  · subst e; simp [h]
  · rw [if_neg e, if_neg (Ne.symm e)]

def DnJ2 (w : World) (L1 : List Sen) (f i : Int) (m : Mg) (s : Sen) (k q sM bo N cp1 u : Nat) (row : Nat → List SV) (a : Act) (w' : World) : Prop :=
  ∃ (ad2 : Option Addr) (n2 cp2 : Nat) (row2 : Nat → List SV), n2 = (s.S.take q ++ (⟨i, m⟩ : Sad) :: s.S.drop q).length ∧ OwA (fun x => bo < x ∧ sM < x) w' (.slice ad2 n2 cp2) (s.S.take q ++ ⟨i, m⟩ :: s.S.drop q) ∧
    (∀ j, row2 j = if j = k then [.v (.int .i64 s.frm), .v (.int .i64 s.below), .v (.slice ad2 n2 cp2)] else row j) ∧
    RepX (frame0 w) ⟨[(15, 0, .el 1 bo 0 k 3 0), (12, 0, .sl 1 bo 0 0 L1.length cp1 3)], [(sM, true, .cells (mgC m) 33), (bo, true, .arr 0 N row2 3 u (0, 0))], 0, 0, 108, [], [], []⟩ a w'

set_option maxRecDepth 100000 in
set_option maxHeartbeats 32000000 in
/-- Done. -/
theorem done_ok {P : Nat → Prop} (w : World) (v : Value) (L : List Sen) (f i : Int) (m : Mg) (hL : RdD P w v L) (hS : SmallN L) (hn : L.length ≤ 100000) (hi60 : i ≤ 1152921504606846976) : Calls Try.prog 9 (denL [.v v, .v (.int .i64 f), .v (.int .i64 i), .ag (mgC m)]).toArray w (DoneR P w L f i m) := by
  obtain ⟨ad, cp, rfl⟩ := hL.1.slice
  refine enter (F := frame0 w) Try.func9 rfl [.v (.slice ad L.length cp), .v (.int .i64 f), .v (.int .i64 i), .ag (mgC m)] [] (by simp [Try.f9]) trivial (keeps0 w) fun a hr => ?_
  by_cases c1 : f < 0
  · refine seg cfg9_ok mixed PanicFree.body 1000 [true] [(20, true), (24, true)] hr (by first | trivial | exact HpRep.nil | assumption) (by kernel_rfl) fun s_ hs_ => ?_
    simp (maxSteps := 10000000) [SX.vc, SX.stop, SX.contS, SX.contB, SX.contW, SX.contR, SX.contD, SX.sxStep, SX.stepPure, SX.stepNew, SX.stepStore, SX.stepKeep, SX.guardIx, SX.evOp, SX.opd, SX.opds, SX.optOpd, SX.look, SX.putS, SX.gobs, SX.AllP, SX.leave, SX.lookC, SX.lookB, SX.lookT, SX.lookN, SX.findK, SX.evBuiltin, SX.ints, SX.foldI, SX.evBin, SX.evInt, SX.evStr, SX.evEq, SX.arith, SX.evLoad, SX.shapeUp, SX.evFieldAddr, SX.evField, SX.evIndexAddr, SX.evIndex, SX.evFill, SX.evBuild, SX.szs, SX.cellsV, SX.evNew, SX.evStore, SX.spliceL, SX.SV.cells, SX.evConv, SX.evSlice, SX.bnd, SX.evNil, SX.evUn, SX.evPick, SX.pickOpd, SX.popTo, SX.cnd, SX.env0, SX.TD.isAgg, SX.TD.isIface, SX.tails, SX.NotAgg, SX.evLookup, SX.evConvH, SX.evPtrEq, SX.isCells, SX.thaw, SX.frz, SX.fixB, SX.rootIx, SX.Froz, SX.frzStep, SX.fork, Go.Value.cells, Go.undef, cfg9, Try.f9, mgC, c1]
    refine ⟨by (unfold SX.Ob; first | trivial | omega | ((try simp only [SX.inK]); (try simp [SX.den, SX.IsU8, SX.AllP, *]); (try omega))), ?_⟩
    intro a1 w1 hr1 _
    exact post_retn (end2 hr1 rfl rfl rfl (.bad (if_pos (.inl c1)) (by decide) hr1.keeps.toBelow)).1
  by_cases c2 : i < 0
  · refine seg cfg9_ok mixed PanicFree.body 1000 [true] [(20, false), (24, true)] hr (by first | trivial | exact HpRep.nil | assumption) (by kernel_rfl) fun s_ hs_ => ?_
    simp (maxSteps := 10000000) [SX.vc, SX.stop, SX.contS, SX.contB, SX.contW, SX.contR, SX.contD, SX.sxStep, SX.stepPure, SX.stepNew, SX.stepStore, SX.stepKeep, SX.guardIx, SX.evOp, SX.opd, SX.opds, SX.optOpd, SX.look, SX.putS, SX.gobs, SX.AllP, SX.leave, SX.lookC, SX.lookB, SX.lookT, SX.lookN, SX.findK, SX.evBuiltin, SX.ints, SX.foldI, SX.evBin, SX.evInt, SX.evStr, SX.evEq, SX.arith, SX.evLoad, SX.shapeUp, SX.evFieldAddr, SX.evField, SX.evIndexAddr, SX.evIndex, SX.evFill, SX.evBuild, SX.szs, SX.cellsV, SX.evNew, SX.evStore, SX.spliceL, SX.SV.cells, SX.evConv, SX.evSlice, SX.bnd, SX.evNil, SX.evUn, SX.evPick, SX.pickOpd, SX.popTo, SX.cnd, SX.env0, SX.TD.isAgg, SX.TD.isIface, SX.tails, SX.NotAgg, SX.evLookup, SX.evConvH, SX.evPtrEq, SX.isCells, SX.thaw, SX.frz, SX.fixB, SX.rootIx, SX.Froz, SX.frzStep, SX.fork, Go.Value.cells, Go.undef, cfg9, Try.f9, mgC, c1, c2]
    refine ⟨by (unfold SX.Ob; first | trivial | omega | ((try simp only [SX.inK]); (try simp [SX.den, SX.IsU8, SX.AllP, *]); (try omega))), ?_⟩
    intro a1 w1 hr1 _
    exact post_retn (end2 hr1 rfl rfl rfl (.bad (if_pos (.inr (.inl c2))) (by decide) hr1.keeps.toBelow)).1
  refine seg cfg9_ok mixed PanicFree.body 1000 [] [(20, false), (24, false)] hr (by first | trivial | exact HpRep.nil | assumption) (by kernel_rfl) fun sM hsM => ?_
  simp (maxSteps := 10000000) [SX.vc, SX.stop, SX.contS, SX.contB, SX.contW, SX.contR, SX.contD, SX.sxStep, SX.stepPure, SX.stepNew, SX.stepStore, SX.stepKeep, SX.guardIx, SX.evOp, SX.opd, SX.opds, SX.optOpd, SX.look, SX.putS, SX.gobs, SX.AllP, SX.leave, SX.lookC, SX.lookB, SX.lookT, SX.lookN, SX.findK, SX.evBuiltin, SX.ints, SX.foldI, SX.evBin, SX.evInt, SX.evStr, SX.evEq, SX.arith, SX.evLoad, SX.shapeUp, SX.evFieldAddr, SX.evField, SX.evIndexAddr, SX.evIndex, SX.evFill, SX.evBuild, SX.szs, SX.cellsV, SX.evNew, SX.evStore, SX.spliceL, SX.SV.cells, SX.evConv, SX.evSlice, SX.bnd, SX.evNil, SX.evUn, SX.evPick, SX.pickOpd, SX.popTo, SX.cnd, SX.env0, SX.TD.isAgg, SX.TD.isIface, SX.tails, SX.NotAgg, SX.evLookup, SX.evConvH, SX.evPtrEq, SX.isCells, SX.thaw, SX.frz, SX.fixB, SX.rootIx, SX.Froz, SX.frzStep, SX.fork, Go.Value.cells, Go.undef, cfg9, Try.f9, mgC, c1, c2]
  refine ⟨by (unfold SX.Ob; first | trivial | omega | ((try simp only [SX.inK]); (try simp [SX.den, SX.IsU8, SX.AllP, *]); (try omega))), ?_⟩
  intro a1 w1 hr1 _
  refine post_call 13 [.v (.slice ad L.length cp)] hr1 (by first | exact wanted_none rfl | exact wanted_zero (hr1.env.same rfl rfl rfl rfl) rfl (by simp) | exact wanted_zero (hr1.env.same rfl rfl rfl rfl) rfl (by simp [*])) rfl (callable 13 Try.func13) (check_ok w1 _ L (hL.below hr1.keeps.toBelow) hS (by omega)) ?_
  rintro e2 w2 ⟨rfl, hb2⟩
  refine ⟨_, rfl, ?_⟩
  have h2 := hr1.ret hb2 26 (.v (.int .i64 (chkN L))) rfl _ (hr1.all.below hb2) (by simp) rfl
  by_cases hC : ChkN (-1) L
  rotate_left
  · have hc : chkN L = 1 := if_neg hC
    refine seg cfg9_ok mixed PanicFree.body 1000 [true] [(20, false), (24, false)] h2 (by first | trivial | exact HpRep.nil | assumption) (by kernel_rfl) fun s_ hs_ => ?_
    simp (maxSteps := 10000000) [SX.vc, SX.stop, SX.contS, SX.contB, SX.contW, SX.contR, SX.contD, SX.sxStep, SX.stepPure, SX.stepNew, SX.stepStore, SX.stepKeep, SX.guardIx, SX.evOp, SX.opd, SX.opds, SX.optOpd, SX.look, SX.putS, SX.gobs, SX.AllP, SX.leave, SX.lookC, SX.lookB, SX.lookT, SX.lookN, SX.findK, SX.evBuiltin, SX.ints, SX.foldI, SX.evBin, SX.evInt, SX.evStr, SX.evEq, SX.arith, SX.evLoad, SX.shapeUp, SX.evFieldAddr, SX.evField, SX.evIndexAddr, SX.evIndex, SX.evFill, SX.evBuild, SX.szs, SX.cellsV, SX.evNew, SX.evStore, SX.spliceL, SX.SV.cells, SX.evConv, SX.evSlice, SX.bnd, SX.evNil, SX.evUn, SX.evPick, SX.pickOpd, SX.popTo, SX.cnd, SX.env0, SX.TD.isAgg, SX.TD.isIface, SX.tails, SX.NotAgg, SX.evLookup, SX.evConvH, SX.evPtrEq, SX.isCells, SX.thaw, SX.frz, SX.fixB, SX.rootIx, SX.Froz, SX.frzStep, SX.fork, Go.Value.cells, Go.undef, cfg9, hc]
    refine ⟨by (unfold SX.Ob; first | trivial | omega | ((try simp only [SX.inK]); (try simp [SX.den, SX.IsU8, SX.AllP, *]); (try omega))), ?_⟩
    intro a3 w3 hr3 _
    exact post_retn (end2 hr3 rfl rfl rfl (.bad (if_pos (.inr (.inr hC))) (by decide) hr3.keeps.toBelow)).1
  have hc : chkN L = 0 := if_pos hC
  have hE : doneE L f i = if askK L f i = 2 then 61 else if askK L f i = 1 then 60 else 0 := if_neg (by simp [c1, c2, hC])
  refine seg cfg9_ok mixed PanicFree.body 1000 [false] [(20, false), (24, false)] h2 (by first | trivial | exact HpRep.nil | assumption) (by kernel_rfl) fun s_ hs_ => ?_
  simp (maxSteps := 10000000) [SX.vc, SX.stop, SX.contS, SX.contB, SX.contW, SX.contR, SX.contD, SX.sxStep, SX.stepPure, SX.stepNew, SX.stepStore, SX.stepKeep, SX.guardIx, SX.evOp, SX.opd, SX.opds, SX.optOpd, SX.look, SX.putS, SX.gobs, SX.AllP, SX.leave, SX.lookC, SX.lookB, SX.lookT, SX.lookN, SX.findK, SX.evBuiltin, SX.ints, SX.foldI, SX.evBin, SX.evInt, SX.evStr, SX.evEq, SX.arith, SX.evLoad, SX.shapeUp, SX.evFieldAddr, SX.evField, SX.evIndexAddr, SX.evIndex, SX.evFill, SX.evBuild, SX.szs, SX.cellsV, SX.evNew, SX.evStore, SX.spliceL, SX.SV.cells, SX.evConv, SX.evSlice, SX.bnd, SX.evNil, SX.evUn, SX.evPick, SX.pickOpd, SX.popTo, SX.cnd, SX.env0, SX.TD.isAgg, SX.TD.isIface, SX.tails, SX.NotAgg, SX.evLookup, SX.evConvH, SX.evPtrEq, SX.isCells, SX.thaw, SX.frz, SX.fixB, SX.rootIx, SX.Froz, SX.frzStep, SX.fork, Go.Value.cells, Go.undef, cfg9, hc]
  refine ⟨by (unfold SX.Ob; first | trivial | omega | ((try simp only [SX.inK]); (try simp [SX.den, SX.IsU8, SX.AllP, *]); (try omega))), ?_⟩
  intro a3 w3 hr3 _
  refine post_call 8 [.v (.slice ad L.length cp), .v (.int .i64 f), .v (.int .i64 i)] hr3 (by first | exact wanted_none rfl | exact wanted_zero (hr3.env.same rfl rfl rfl rfl) rfl (by simp) | exact wanted_zero (hr3.env.same rfl rfl rfl rfl) rfl (by simp [*])) rfl (callable 8 Try.func8) (ask_ok w3 _ L f i (hL.below hr3.keeps.toBelow) hS (by omega)) ?_
  rintro e4 w4 ⟨rfl, hb4⟩
  refine ⟨_, rfl, ?_⟩
  have h4 := hr3.ret hb4 33 (.tu [.ag (mgC (askM L f i)), .v (.int .i64 (askK L f i))]) rfl _ (hr3.all.below hb4) (by simp) rfl
  by_cases k2 : askK L f i = 2
  · refine seg cfg9_ok mixed PanicFree.body 1000 [true] [] h4 (by first | trivial | exact HpRep.nil | assumption) (by kernel_rfl) fun s_ hs_ => ?_
    simp (maxSteps := 10000000) [SX.vc, SX.stop, SX.contS, SX.contB, SX.contW, SX.contR, SX.contD, SX.sxStep, SX.stepPure, SX.stepNew, SX.stepStore, SX.stepKeep, SX.guardIx, SX.evOp, SX.opd, SX.opds, SX.optOpd, SX.look, SX.putS, SX.gobs, SX.AllP, SX.leave, SX.lookC, SX.lookB, SX.lookT, SX.lookN, SX.findK, SX.evBuiltin, SX.ints, SX.foldI, SX.evBin, SX.evInt, SX.evStr, SX.evEq, SX.arith, SX.evLoad, SX.shapeUp, SX.evFieldAddr, SX.evField, SX.evIndexAddr, SX.evIndex, SX.evFill, SX.evBuild, SX.szs, SX.cellsV, SX.evNew, SX.evStore, SX.spliceL, SX.SV.cells, SX.evConv, SX.evSlice, SX.bnd, SX.evNil, SX.evUn, SX.evPick, SX.pickOpd, SX.popTo, SX.cnd, SX.env0, SX.TD.isAgg, SX.TD.isIface, SX.tails, SX.NotAgg, SX.evLookup, SX.evConvH, SX.evPtrEq, SX.isCells, SX.thaw, SX.frz, SX.fixB, SX.rootIx, SX.Froz, SX.frzStep, SX.fork, Go.Value.cells, Go.undef, cfg9, mgC, k2]
    refine ⟨by (unfold SX.Ob; first | trivial | omega | ((try simp only [SX.inK]); (try simp [SX.den, SX.IsU8, SX.AllP, *]); (try omega))), ?_⟩
    intro a5 w5 hr5 _
    exact post_retn (end2 hr5 rfl rfl rfl (.bad (by rw [hE, if_pos k2]) (by decide) hr5.keeps.toBelow)).1
  by_cases k1 : askK L f i = 1
  · refine seg cfg9_ok mixed PanicFree.body 1000 [false, true] [] h4 (by first | trivial | exact HpRep.nil | assumption) (by kernel_rfl) fun s_ hs_ => ?_
    simp (maxSteps := 10000000) [SX.vc, SX.stop, SX.contS, SX.contB, SX.contW, SX.contR, SX.contD, SX.sxStep, SX.stepPure, SX.stepNew, SX.stepStore, SX.stepKeep, SX.guardIx, SX.evOp, SX.opd, SX.opds, SX.optOpd, SX.look, SX.putS, SX.gobs, SX.AllP, SX.leave, SX.lookC, SX.lookB, SX.lookT, SX.lookN, SX.findK, SX.evBuiltin, SX.ints, SX.foldI, SX.evBin, SX.evInt, SX.evStr, SX.evEq, SX.arith, SX.evLoad, SX.shapeUp, SX.evFieldAddr, SX.evField, SX.evIndexAddr, SX.evIndex, SX.evFill, SX.evBuild, SX.szs, SX.cellsV, SX.evNew, SX.evStore, SX.spliceL, SX.SV.cells, SX.evConv, SX.evSlice, SX.bnd, SX.evNil, SX.evUn, SX.evPick, SX.pickOpd, SX.popTo, SX.cnd, SX.env0, SX.TD.isAgg, SX.TD.isIface, SX.tails, SX.NotAgg, SX.evLookup, SX.evConvH, SX.evPtrEq, SX.isCells, SX.thaw, SX.frz, SX.fixB, SX.rootIx, SX.Froz, SX.frzStep, SX.fork, Go.Value.cells, Go.undef, cfg9, mgC, k2, k1]
    refine ⟨by (unfold SX.Ob; first | trivial | omega | ((try simp only [SX.inK]); (try simp [SX.den, SX.IsU8, SX.AllP, *]); (try omega))), ?_⟩
    intro a5 w5 hr5 _
    exact post_retn (end2 hr5 rfl rfl rfl (.bad (by rw [hE, if_neg k2, if_pos k1]) (by decide) hr5.keeps.toBelow)).1
  have hE0 : doneE L f i = 0 := by rw [hE, if_neg k2, if_neg k1]
  have hnew : (ofN L f).getD (newN f) = getN L f ∧ (getN L f).below ≤ i ∧ ansS (getN L f).S i = none := by
    refine ⟨rfl, ?_⟩
    unfold askK at k1 k2
    rw [if_neg (by simp [c2, hC])] at k1 k2
    unfold getN
    rcases ho : ofN L f with _ | s
    · exact ⟨by show (0 : Int) ≤ i; omega, rfl⟩
    · rw [ho] at k1 k2
      dsimp only at k1 k2
      by_cases hb : i < s.below
      · rw [if_pos hb] at k2; exact absurd rfl k2
      · rw [if_neg hb] at k1 k2
        rcases ha : ansS s.S i with _ | x
        · exact ⟨by show s.below ≤ i; omega, ha⟩
        · rw [ha] at k1; exact absurd rfl k1
  refine seg cfg9_ok mixed PanicFree.body 1000 [false, false] [] h4 (by first | trivial | exact HpRep.nil | assumption) (by kernel_rfl) fun sQ hsQ => ?_
  simp (maxSteps := 10000000) [SX.vc, SX.stop, SX.contS, SX.contB, SX.contW, SX.contR, SX.contD, SX.sxStep, SX.stepPure, SX.stepNew, SX.stepStore, SX.stepKeep, SX.guardIx, SX.evOp, SX.opd, SX.opds, SX.optOpd, SX.look, SX.putS, SX.gobs, SX.AllP, SX.leave, SX.lookC, SX.lookB, SX.lookT, SX.lookN, SX.findK, SX.evBuiltin, SX.ints, SX.foldI, SX.evBin, SX.evInt, SX.evStr, SX.evEq, SX.arith, SX.evLoad, SX.shapeUp, SX.evFieldAddr, SX.evField, SX.evIndexAddr, SX.evIndex, SX.evFill, SX.evBuild, SX.szs, SX.cellsV, SX.evNew, SX.evStore, SX.spliceL, SX.SV.cells, SX.evConv, SX.evSlice, SX.bnd, SX.evNil, SX.evUn, SX.evPick, SX.pickOpd, SX.popTo, SX.cnd, SX.env0, SX.TD.isAgg, SX.TD.isIface, SX.tails, SX.NotAgg, SX.evLookup, SX.evConvH, SX.evPtrEq, SX.isCells, SX.thaw, SX.frz, SX.fixB, SX.rootIx, SX.Froz, SX.frzStep, SX.fork, Go.Value.cells, Go.undef, cfg9, mgC, k2, k1]
  refine ⟨by (unfold SX.Ob; first | trivial | omega | ((try simp only [SX.inK]); (try simp [SX.den, SX.IsU8, SX.AllP, *]); (try omega))), ?_⟩
  intro a5 w5 hr5 _
  refine post_call 18 [.v (.slice ad L.length cp)] hr5 (by first | exact wanted_none rfl | exact wanted_zero (hr5.env.same rfl rfl rfl rfl) rfl (by simp) | exact wanted_zero (hr5.env.same rfl rfl rfl rfl) rfl (by simp [*])) rfl (callable 18 Try.func18) (Sn.clone_all w5 _ L (hL.1.below hr5.keeps.toBelow) (by omega)) ?_
  rintro e6 w6 ⟨v6, rfl, hO6, hb6⟩
  refine ⟨_, rfl, ?_⟩
  have h6 := hr5.ret hb6 42 (.v v6) rfl _ (hr5.all.below hb6) (by simp) rfl
  obtain ⟨ad6, cp6, rfl⟩ := hO6.slice
  have hA5 := hr5.all
  have lM := SO.rep_lt hA5.1.1
  have z5 : w.heap.size ≤ w5.heap.size := hr5.keeps.size
  have h6' := h6.see [(sM, true, .cells (mgC m) 33)] (h6.all.take 1)
  refine seg cfg9_ok mixed PanicFree.body 1000 [] [] h6'.rebase (by first | trivial | exact HpRep.nil | assumption) (by kernel_rfl) fun s_ hs_ => ?_
  simp (maxSteps := 10000000) [SX.vc, SX.stop, SX.contS, SX.contB, SX.contW, SX.contR, SX.contD, SX.sxStep, SX.stepPure, SX.stepNew, SX.stepStore, SX.stepKeep, SX.guardIx, SX.evOp, SX.opd, SX.opds, SX.optOpd, SX.look, SX.putS, SX.gobs, SX.AllP, SX.leave, SX.lookC, SX.lookB, SX.lookT, SX.lookN, SX.findK, SX.evBuiltin, SX.ints, SX.foldI, SX.evBin, SX.evInt, SX.evStr, SX.evEq, SX.arith, SX.evLoad, SX.shapeUp, SX.evFieldAddr, SX.evField, SX.evIndexAddr, SX.evIndex, SX.evFill, SX.evBuild, SX.szs, SX.cellsV, SX.evNew, SX.evStore, SX.spliceL, SX.SV.cells, SX.evConv, SX.evSlice, SX.bnd, SX.evNil, SX.evUn, SX.evPick, SX.pickOpd, SX.popTo, SX.cnd, SX.env0, SX.TD.isAgg, SX.TD.isIface, SX.tails, SX.NotAgg, SX.evLookup, SX.evConvH, SX.evPtrEq, SX.isCells, SX.thaw, SX.frz, SX.fixB, SX.rootIx, SX.Froz, SX.frzStep, SX.fork, Go.Value.cells, Go.undef, cfg9]
  refine ⟨by (unfold SX.Ob; first | trivial | omega | ((try simp only [SX.inK]); (try simp [SX.den, SX.IsU8, SX.AllP, *]); (try omega))), ?_⟩
  intro a7 w7 hr7' _
  have hr7 := h6'.unbase hr7'
  have hO7 := hO6.keep hr7'.keeps (by simp [frameAt, mutB]; omega)
  refine post_call 16 [.v (.slice ad6 L.length cp6), .v (.int .i64 f)] hr7 (by first | exact wanted_none rfl | exact wanted_zero (hr7.env.same rfl rfl rfl rfl) rfl (by simp) | exact wanted_zero (hr7.env.same rfl rfl rfl rfl) rfl (by simp [*])) rfl (callable 16 Try.func16) (find_ok w7 _ L f hO7.rd (by omega)) ?_
  rintro e8 w8 ⟨k, rfl, hp, hb8⟩
  refine ⟨_, rfl, ?_⟩
  have h8 := hr7.ret hb8 46 (.tu [.v (.int .i64 k), .v (.bool (Sn.isAt L f k))]) rfl _ (hr7.all.below hb8) (by simp) rfl
  have hO8 := hO7.below hb8
  refine seg cfg9_ok mixed PanicFree.body 1000 [] [] h8.rebase (by first | trivial | exact HpRep.nil | assumption) (by kernel_rfl) fun s_ hs_ => ?_
  simp (maxSteps := 10000000) [SX.vc, SX.stop, SX.contS, SX.contB, SX.contW, SX.contR, SX.contD, SX.sxStep, SX.stepPure, SX.stepNew, SX.stepStore, SX.stepKeep, SX.guardIx, SX.evOp, SX.opd, SX.opds, SX.optOpd, SX.look, SX.putS, SX.gobs, SX.AllP, SX.leave, SX.lookC, SX.lookB, SX.lookT, SX.lookN, SX.findK, SX.evBuiltin, SX.ints, SX.foldI, SX.evBin, SX.evInt, SX.evStr, SX.evEq, SX.arith, SX.evLoad, SX.shapeUp, SX.evFieldAddr, SX.evField, SX.evIndexAddr, SX.evIndex, SX.evFill, SX.evBuild, SX.szs, SX.cellsV, SX.evNew, SX.evStore, SX.spliceL, SX.SV.cells, SX.evConv, SX.evSlice, SX.bnd, SX.evNil, SX.evUn, SX.evPick, SX.pickOpd, SX.popTo, SX.cnd, SX.env0, SX.TD.isAgg, SX.TD.isIface, SX.tails, SX.NotAgg, SX.evLookup, SX.evConvH, SX.evPtrEq, SX.isCells, SX.thaw, SX.frz, SX.fixB, SX.rootIx, SX.Froz, SX.frzStep, SX.fork, Go.Value.cells, Go.undef, cfg9]
  refine ⟨by (unfold SX.Ob; first | trivial | omega | ((try simp only [SX.inK]); (try simp [SX.den, SX.IsU8, SX.AllP, *]); (try omega))), ?_⟩
  intro a9 w9 hr9' _
  have hr9 := h8.unbase hr9'
  have hO9 := hO8.keep hr9'.keeps (by simp [frameAt, mutB]; omega)
  refine post_cut (DnJ P w L f i m sM) 1 rfl ?_ fun a10 w10 hJ => ?_
  · by_cases hat : Sn.isAt L f k = true
    · obtain ⟨hk, hkf⟩ : k < L.length ∧ (nth sen0 L k).frm = f := by simpa [Sn.isAt] using hat
      have hof := ofN_at hC hk rfl
      rw [hkf] at hof
      refine seg cfg9_ok mixed PanicFree.body 1000 [false] [] hr9.rebase (by first | trivial | exact HpRep.nil | assumption) (by kernel_rfl) fun s_ hs_ => ?_
      simp (maxSteps := 10000000) [SX.vc, SX.stop, SX.contS, SX.contB, SX.contW, SX.contR, SX.contD, SX.sxStep, SX.stepPure, SX.stepNew, SX.stepStore, SX.stepKeep, SX.guardIx, SX.evOp, SX.opd, SX.opds, SX.optOpd, SX.look, SX.putS, SX.gobs, SX.AllP, SX.leave, SX.lookC, SX.lookB, SX.lookT, SX.lookN, SX.findK, SX.evBuiltin, SX.ints, SX.foldI, SX.evBin, SX.evInt, SX.evStr, SX.evEq, SX.arith, SX.evLoad, SX.shapeUp, SX.evFieldAddr, SX.evField, SX.evIndexAddr, SX.evIndex, SX.evFill, SX.evBuild, SX.szs, SX.cellsV, SX.evNew, SX.evStore, SX.spliceL, SX.SV.cells, SX.evConv, SX.evSlice, SX.bnd, SX.evNil, SX.evUn, SX.evPick, SX.pickOpd, SX.popTo, SX.cnd, SX.env0, SX.TD.isAgg, SX.TD.isIface, SX.tails, SX.NotAgg, SX.evLookup, SX.evConvH, SX.evPtrEq, SX.isCells, SX.thaw, SX.frz, SX.fixB, SX.rootIx, SX.Froz, SX.frzStep, SX.fork, Go.Value.cells, Go.undef, cfg9, hat]
      refine ⟨by (unfold SX.Ob; first | trivial | omega | ((try simp only [SX.inK]); (try simp [SX.den, SX.IsU8, SX.AllP, *]); (try omega))), ?_⟩
      intro a11 w11 hr11' _
      have hr11 := hr9.unbase hr11'
      exact post_inv ⟨L, k, _, ad6, cp6, w5.heap.size, ⟨hk, rfl, .inl ⟨rfl, hof⟩⟩, z5, lM, hO9.keep hr11'.keeps (by simp [frameAt, mutB]; omega), by omega, hr11.re (by simp [envTo, SX.look, den]) hr11.all rfl rfl⟩
    · have hat' : Sn.isAt L f k = false := by simpa using hat
      have hno := ofN_no hC hp hat'
      have hkl : k ≤ L.length := hp.1
      refine seg cfg9_ok mixed PanicFree.body 1000 [true] [] hr9.rebase (by first | trivial | exact HpRep.nil | assumption) (by kernel_rfl) fun sB hsB => ?_
      simp (maxSteps := 10000000) [SX.vc, SX.stop, SX.contS, SX.contB, SX.contW, SX.contR, SX.contD, SX.sxStep, SX.stepPure, SX.stepNew, SX.stepStore, SX.stepKeep, SX.guardIx, SX.evOp, SX.opd, SX.opds, SX.optOpd, SX.look, SX.putS, SX.gobs, SX.AllP, SX.leave, SX.lookC, SX.lookB, SX.lookT, SX.lookN, SX.findK, SX.evBuiltin, SX.ints, SX.foldI, SX.evBin, SX.evInt, SX.evStr, SX.evEq, SX.arith, SX.evLoad, SX.shapeUp, SX.evFieldAddr, SX.evField, SX.evIndexAddr, SX.evIndex, SX.evFill, SX.evBuild, SX.szs, SX.cellsV, SX.evNew, SX.evStore, SX.spliceL, SX.SV.cells, SX.evConv, SX.evSlice, SX.bnd, SX.evNil, SX.evUn, SX.evPick, SX.pickOpd, SX.popTo, SX.cnd, SX.env0, SX.TD.isAgg, SX.TD.isIface, SX.tails, SX.NotAgg, SX.evLookup, SX.evConvH, SX.evPtrEq, SX.isCells, SX.thaw, SX.frz, SX.fixB, SX.rootIx, SX.Froz, SX.frzStep, SX.fork, Go.Value.cells, Go.undef, cfg9, hat']
      refine ⟨by (unfold SX.Ob; first | trivial | omega | ((try simp only [SX.inK]); (try simp [SX.den, SX.IsU8, SX.AllP, *]); (try omega))), ?_⟩
      intro a11 w11 hr11' _
      have hr11 := hr9.unbase hr11'
      have hO11 := (hO9.mono (P' := fun x => w5.heap.size ≤ x ∧ x < w9.heap.size) fun x h1 h2 => ⟨h2, h1⟩).keep hr11'.keeps (by simp [frameAt, mutB]; omega)
      have z9 : sM < w9.heap.size := SO.rep_lt hr9.all.1.1
      have hsB : w9.heap.size ≤ sB := by
        rcases hr11'.all.2.1.2.1 rfl with h | h
        · exact h
        · simp [frameAt, mutB] at h; omega
      have hB11 : (SO.arr 0 1 (fun _ => senC (newN f)) 3 53 (0, 0)).rep w11 sB := rep_arr_sub hr11.all.2.1.1 (Nat.le_refl _) (fun j hj => by
        obtain rfl : j = 0 := by omega
        simp [senC, newN])
      refine post_call 19 [.v (.slice ad6 L.length cp6), .v (.int .i64 k), .sl 1 sB 0 0 1 1 3] hr11 (wanted_none rfl) rfl (callable 19 Try.func19) (Sn.insert_ok w11 _ L hO11 k hkl (by omega) sB 53 (newN f) hB11 (fun h => by omega)) ?_
      rintro e12 w12 ⟨V, B, rfl, hO12, hB, hk12⟩
      refine ⟨_, rfl, ?_⟩
      have z12 : w11.heap.size ≤ w12.heap.size := hk12.size
      have z911 : w9.heap.size ≤ w11.heap.size := hr11'.keeps.size
      have z59 : w5.heap.size ≤ w9.heap.size := by
        have h1 := hb6.size
        have h2 : (frameAt w6 ([] : Hp)).w0.heap.size ≤ w7.heap.size := hr7'.keeps.size
        have h3 := hb8.size
        have h4 : (frameAt w8 ([] : Hp)).w0.heap.size ≤ w9.heap.size := hr9'.keeps.size
        simp only [frameAt] at h2 h4
        omega
      have h12 := hr11.retK hk12 (fun x hx => .inl (Nat.le_trans z5 (hB x hx).1.1)) 56 (.v V) rfl [(sM, true, .cells (mgC m) 33)] (HpAll.to hk12 (hr11.all.take 1) (fun e he hb => by
        have := (hB _ hb).1.1
        simp at he
        subst he
        simp at this; omega)) (by simp) rfl
      obtain ⟨adV, lV, cpV, rfl, hlV⟩ : ∃ ad n cp, V = Value.slice ad n cp ∧ n = (L.take k ++ newN f :: L.drop k).length := by
        obtain ⟨x1, x2, h1⟩ := hO12.slice
        exact ⟨_, _, _, h1, rfl⟩
      subst hlV
      refine seg cfg9_ok mixed PanicFree.body 1000 [] [] h12.rebase (by first | trivial | exact HpRep.nil | assumption) (by kernel_rfl) fun s_ hs_ => ?_
      simp (maxSteps := 10000000) [SX.vc, SX.stop, SX.contS, SX.contB, SX.contW, SX.contR, SX.contD, SX.sxStep, SX.stepPure, SX.stepNew, SX.stepStore, SX.stepKeep, SX.guardIx, SX.evOp, SX.opd, SX.opds, SX.optOpd, SX.look, SX.putS, SX.gobs, SX.AllP, SX.leave, SX.lookC, SX.lookB, SX.lookT, SX.lookN, SX.findK, SX.evBuiltin, SX.ints, SX.foldI, SX.evBin, SX.evInt, SX.evStr, SX.evEq, SX.arith, SX.evLoad, SX.shapeUp, SX.evFieldAddr, SX.evField, SX.evIndexAddr, SX.evIndex, SX.evFill, SX.evBuild, SX.szs, SX.cellsV, SX.evNew, SX.evStore, SX.spliceL, SX.SV.cells, SX.evConv, SX.evSlice, SX.bnd, SX.evNil, SX.evUn, SX.evPick, SX.pickOpd, SX.popTo, SX.cnd, SX.env0, SX.TD.isAgg, SX.TD.isIface, SX.tails, SX.NotAgg, SX.evLookup, SX.evConvH, SX.evPtrEq, SX.isCells, SX.thaw, SX.frz, SX.fixB, SX.rootIx, SX.Froz, SX.frzStep, SX.fork, Go.Value.cells, Go.undef, cfg9]
      refine ⟨by (unfold SX.Ob; first | trivial | omega | ((try simp only [SX.inK]); (try simp [SX.den, SX.IsU8, SX.AllP, *]); (try omega))), ?_⟩
      intro a13 w13 hr13' _
      have hr13 := h12.unbase hr13'
      have hO13 := (hO12.mono (P' := fun x => w5.heap.size ≤ x) fun x _ h => by
        rcases h with h | h
        · exact h.1
        · omega).keep hr13'.keeps (by simp [frameAt, mutB]; omega)
      exact post_inv ⟨L.take k ++ newN f :: L.drop k, k, newN f, adV, cpV, w5.heap.size, ⟨by simp; omega, by rw [Sn.nth_ins hkl]; simp, .inr ⟨hno, rfl, hkl, rfl, hp⟩⟩, z5, lM, hO13, by simp; omega, hr13.re (by simp [envTo, SX.look, den]) hr13.all rfl rfl⟩
  clear hr hr1 h2 hr3 h4 hr5 h6 h6' hr7' hr7 h8 hr9' hr9 hO6 hO7 hO8 hO9 hp hA5 lM
  obtain ⟨L1, k, s, ad1, cp1, z, hIn, hz, hMz, hO, hl1, hr⟩ := hJ
  obtain ⟨hg, hsf, hsm⟩ := insN_get hIn
  have hb0 : s.below ≤ i := hg ▸ hnew.2.1
  have hno := hg ▸ hnew.2.2
  have hC1 := insN_chk hC (by omega) hIn
  obtain ⟨hos, _⟩ := (chkN_pw.1 hC1).1 s hsm
  have hs8 := hos.2.2.1
  have hRS : RdA P w (.slice s.ad s.S.length s.cp) s.S := by
    obtain ⟨_, _, ⟨rfl, h⟩ | ⟨_, rfl, _⟩⟩ := hIn
    · exact hL.2 s hsm
    · exact .inl ⟨rfl, _, _, rfl⟩
  have hkL := hIn.1
  obtain ⟨bo, N, cap, u, row, hPo, hv, hc0, hc1, hc2, hrep, hrow⟩ := hO.opn hkL
  cases hv
  have hkN : k < N := by omega
  have hrk : row k = [.v (.int .i64 s.frm), .v (.int .i64 s.below), .v (.slice s.ad s.S.length s.cp)] := by rw [hrow k hkL, hIn.2.1]; rfl
  have hA := hr.all
  have h1 := (hr.top 12 (.sl 1 bo 0 0 L1.length cp1 3) rfl (by simp [den])).see [(sM, true, .cells (mgC m) 33), (bo, true, .arr 0 N row 3 u (0, 0))] ⟨⟨hA.1.1, hA.1.2.1, by simp; omega⟩, ⟨hrep, fun _ => .inl (by show w.heap.size ≤ bo; omega), by simp⟩, trivial⟩
  refine seg cfg9_ok mixed PanicFree.body 1000 [] [] h1 (by first | trivial | exact HpRep.nil | assumption) (by kernel_rfl) fun s_ hs_ => ?_
  simp (maxSteps := 10000000) [SX.vc, SX.stop, SX.contS, SX.contB, SX.contW, SX.contR, SX.contD, SX.sxStep, SX.stepPure, SX.stepNew, SX.stepStore, SX.stepKeep, SX.guardIx, SX.evOp, SX.opd, SX.opds, SX.optOpd, SX.look, SX.putS, SX.gobs, SX.AllP, SX.leave, SX.lookC, SX.lookB, SX.lookT, SX.lookN, SX.findK, SX.evBuiltin, SX.ints, SX.foldI, SX.evBin, SX.evInt, SX.evStr, SX.evEq, SX.arith, SX.evLoad, SX.shapeUp, SX.evFieldAddr, SX.evField, SX.evIndexAddr, SX.evIndex, SX.evFill, SX.evBuild, SX.szs, SX.cellsV, SX.evNew, SX.evStore, SX.spliceL, SX.SV.cells, SX.evConv, SX.evSlice, SX.bnd, SX.evNil, SX.evUn, SX.evPick, SX.pickOpd, SX.popTo, SX.cnd, SX.env0, SX.TD.isAgg, SX.TD.isIface, SX.tails, SX.NotAgg, SX.evLookup, SX.evConvH, SX.evPtrEq, SX.isCells, SX.thaw, SX.frz, SX.fixB, SX.rootIx, SX.Froz, SX.frzStep, SX.fork, Go.Value.cells, Go.undef, cfg9, hrk]
  refine ⟨by (unfold SX.Ob; first | trivial | omega | ((try simp only [SX.inK]); (try simp [SX.den, SX.IsU8, SX.AllP, *]); (try omega))), ?_⟩
  intro a2 w2 hr2 _
  refine post_call 17 [.ag (senC s), .v (.int .i64 i)] hr2 (by first | exact wanted_none rfl | exact wanted_zero (hr2.env.same rfl rfl rfl rfl) rfl (by simp) | exact wanted_zero (hr2.env.same rfl rfl rfl rfl) rfl (by simp [*])) rfl (callable 17 Try.func17) (said_ok w2 s i (hRS.below hr2.keeps.toBelow) (by omega)) ?_
  rintro e3 w3 ⟨q, rfl, hq, hb3⟩
  refine ⟨_, rfl, ?_⟩
  have h3 := hr2.ret hb3 65 (.tu [.v (.int .i64 q), .v (.bool (Sd.isAt s.S i q))]) rfl _ (hr2.all.below hb3) (by simp) rfl
  refine seg cfg9_ok mixed PanicFree.body 7 [] [] h3 (by first | trivial | exact HpRep.nil | assumption) (by kernel_rfl) fun s_ hs_ => ?_
  simp (maxSteps := 10000000) [SX.vc, SX.stop, SX.contS, SX.contB, SX.contW, SX.contR, SX.contD, SX.sxStep, SX.stepPure, SX.stepNew, SX.stepStore, SX.stepKeep, SX.guardIx, SX.evOp, SX.opd, SX.opds, SX.optOpd, SX.look, SX.putS, SX.gobs, SX.AllP, SX.leave, SX.lookC, SX.lookB, SX.lookT, SX.lookN, SX.findK, SX.evBuiltin, SX.ints, SX.foldI, SX.evBin, SX.evInt, SX.evStr, SX.evEq, SX.arith, SX.evLoad, SX.shapeUp, SX.evFieldAddr, SX.evField, SX.evIndexAddr, SX.evIndex, SX.evFill, SX.evBuild, SX.szs, SX.cellsV, SX.evNew, SX.evStore, SX.spliceL, SX.SV.cells, SX.evConv, SX.evSlice, SX.bnd, SX.evNil, SX.evUn, SX.evPick, SX.pickOpd, SX.popTo, SX.cnd, SX.env0, SX.TD.isAgg, SX.TD.isIface, SX.tails, SX.NotAgg, SX.evLookup, SX.evConvH, SX.evPtrEq, SX.isCells, SX.thaw, SX.frz, SX.fixB, SX.rootIx, SX.Froz, SX.frzStep, SX.fork, Go.Value.cells, Go.undef, cfg9, hrk]
  refine ⟨by (unfold SX.Ob; first | trivial | omega | ((try simp only [SX.inK]); (try simp [SX.den, SX.IsU8, SX.AllP, *]); (try omega))), ?_⟩
  intro a4 w4 hr4 _
  have z4 : w.heap.size ≤ w4.heap.size := hr4.keeps.size
  have hA4 := hr4.all
  have lM := SO.rep_lt hA4.1.1
  have lbo := SO.rep_lt hA4.2.1.1
  have hRS4 := hRS.below hr4.keeps.toBelow
  refine post_cut (DnJ2 w L1 f i m s k q sM bo N cp1 u row) 1 rfl ?_ fun a5 w5 hJ => ?_
  · refine seg cfg9_ok mixed PanicFree.body 1000 [] [] hr4 (by first | trivial | exact HpRep.nil | assumption) (by kernel_rfl) fun s_ hs_ => ?_
    simp (maxSteps := 10000000) [SX.vc, SX.stop, SX.contS, SX.contB, SX.contW, SX.contR, SX.contD, SX.sxStep, SX.stepPure, SX.stepNew, SX.stepStore, SX.stepKeep, SX.guardIx, SX.evOp, SX.opd, SX.opds, SX.optOpd, SX.look, SX.putS, SX.gobs, SX.AllP, SX.leave, SX.lookC, SX.lookB, SX.lookT, SX.lookN, SX.findK, SX.evBuiltin, SX.ints, SX.foldI, SX.evBin, SX.evInt, SX.evStr, SX.evEq, SX.arith, SX.evLoad, SX.shapeUp, SX.evFieldAddr, SX.evField, SX.evIndexAddr, SX.evIndex, SX.evFill, SX.evBuild, SX.szs, SX.cellsV, SX.evNew, SX.evStore, SX.spliceL, SX.SV.cells, SX.evConv, SX.evSlice, SX.bnd, SX.evNil, SX.evUn, SX.evPick, SX.pickOpd, SX.popTo, SX.cnd, SX.env0, SX.TD.isAgg, SX.TD.isIface, SX.tails, SX.NotAgg, SX.evLookup, SX.evConvH, SX.evPtrEq, SX.isCells, SX.thaw, SX.frz, SX.fixB, SX.rootIx, SX.Froz, SX.frzStep, SX.fork, Go.Value.cells, Go.undef, cfg9, hrk, mgC]
    refine ⟨by (unfold SX.Ob; first | trivial | omega | ((try simp only [SX.inK]); (try simp [SX.den, SX.IsU8, SX.AllP, *]); (try omega))), ?_⟩
    intro a5 w5 hr5 ht5
    have hA5 := hr5.all
    have l0 := SO.rep_lt hA5.1.1
    have l1 := SO.rep_lt hA5.2.1.1
    have z5 : w.heap.size ≤ w5.heap.size := hr5.keeps.size
    have hRS5 := hRS.below hr5.keeps.toBelow
    refine post_both ?_ ?_
    · refine post_callD 21 [.v (.slice s.ad s.S.length s.cp)] hr5 rfl (by first | exact wanted_none rfl | exact wanted_zero (hr5.env.same rfl rfl rfl rfl) rfl (by simp) | exact wanted_zero (hr5.env.same rfl rfl rfl rfl) rfl (by simp [*])) rfl (callable 21 Try.func21) (Sd.clone_all w5 _ s.S hRS5 (by omega)) ?_
      rintro e6 w6 ⟨v6, rfl, hO6, hb6⟩
      have ht6 := HpRep_below ht5 hb6
      refine ⟨_, rfl, ht6, ?_⟩
      have hr6 := hr5.ret hb6 73 (.v v6) rfl _ (hr5.all.below hb6) (by simp) rfl
      have z56 : w5.heap.size ≤ w6.heap.size := hb6.size
      have hO6' := hO6.mono (P' := fun x => w5.heap.size ≤ x ∧ x < w6.heap.size) fun x h1 h2 => ⟨h2, h1⟩
      refine seg cfg9_ok mixed PanicFree.body 1000 [] [] hr6.rebase (by first | trivial | exact HpRep.nil | assumption) (by kernel_rfl) fun sL hsL => ?_
      simp (maxSteps := 10000000) [SX.vc, SX.stop, SX.contS, SX.contB, SX.contW, SX.contR, SX.contD, SX.sxStep, SX.stepPure, SX.stepNew, SX.stepStore, SX.stepKeep, SX.guardIx, SX.evOp, SX.opd, SX.opds, SX.optOpd, SX.look, SX.putS, SX.gobs, SX.AllP, SX.leave, SX.lookC, SX.lookB, SX.lookT, SX.lookN, SX.findK, SX.evBuiltin, SX.ints, SX.foldI, SX.evBin, SX.evInt, SX.evStr, SX.evEq, SX.arith, SX.evLoad, SX.shapeUp, SX.evFieldAddr, SX.evField, SX.evIndexAddr, SX.evIndex, SX.evFill, SX.evBuild, SX.szs, SX.cellsV, SX.evNew, SX.evStore, SX.spliceL, SX.SV.cells, SX.evConv, SX.evSlice, SX.bnd, SX.evNil, SX.evUn, SX.evPick, SX.pickOpd, SX.popTo, SX.cnd, SX.env0, SX.TD.isAgg, SX.TD.isIface, SX.tails, SX.NotAgg, SX.evLookup, SX.evConvH, SX.evPtrEq, SX.isCells, SX.thaw, SX.frz, SX.fixB, SX.rootIx, SX.Froz, SX.frzStep, SX.fork, Go.Value.cells, Go.undef, cfg9, mgC]
      refine ⟨by (unfold SX.Ob; first | trivial | omega | ((try simp only [SX.inK]); (try simp [SX.den, SX.IsU8, SX.AllP, *]); (try omega))), ?_⟩
      intro a7 w7 hr7' ht7
      have hr7 := hr6.unbase hr7'
      have z67 : w6.heap.size ≤ w7.heap.size := hr7'.keeps.size
      have hO7 := hO6'.keep hr7'.keeps (by simp [frameAt, mutB]; omega)
      have hsL : w6.heap.size ≤ sL := by
        rcases hr7'.all.2.2.1.2.1 rfl with h | h
        · exact h
        · simp [frameAt, mutB] at h; omega
      have hsQ : ¬ (w5.heap.size ≤ sL ∧ sL < w6.heap.size) := fun h => by omega
      have hs7 : (SO.arr 0 1 (fun _ => sadC ⟨i, m⟩) 7 55 (0, 0)).rep w7 sL := rep_arr_sub hr7.all.2.2.1.1 (Nat.le_refl _) (fun j hj => by
        obtain rfl : j = 0 := by omega
        simp [sadC])
      refine post_callD 20 [.v v6, .v (.int .i64 q), .sl 2 sL 0 0 1 1 7] hr7 rfl (wanted_none rfl) rfl (callable 20 Try.func20) (Sd.insert_ok w7 v6 s.S hO7 q hq.1 (by omega) sL 55 ⟨i, m⟩ hs7 hsQ) ?_
      rintro e8 w8 ⟨V, B, rfl, hO8, hB, hk8⟩
      have hBge : ∀ x ∈ B, w5.heap.size ≤ x := fun x hx => (hB x hx).1.1
      have z8 : w7.heap.size ≤ w8.heap.size := hk8.size
      have ht8 := HpRep.to ht7 hk8 (fun e he hb => by
        have := hBge _ hb
        simp [thaw] at he
        rcases he with rfl | rfl <;> (simp at this; omega))
      refine ⟨_, rfl, ht8, ?_⟩
      have h8 := hr7.retK hk8 (fun x hx => .inl (Nat.le_trans z5 (hBge x hx))) 79 (.v V) rfl _ (HpAll.to hk8 (hr7.all.take 2) (fun e he hb => by
        have := hBge _ hb
        simp at he
        rcases he with rfl | rfl <;> (simp at this; omega))) (by simp) rfl
      obtain ⟨adV, lV, cpV, rfl, hlV⟩ : ∃ ad n cp, V = Value.slice ad n cp ∧ n = (s.S.take q ++ (⟨i, m⟩ : Sad) :: s.S.drop q).length := by
        obtain ⟨x1, x2, h1⟩ := hO8.slice
        exact ⟨_, _, _, h1, rfl⟩
      refine seg cfg9_ok mixed PanicFree.body 1000 [] [] h8.rebase (by first | trivial | exact HpRep.nil | assumption) (by kernel_rfl) fun s_ hs_ => ?_
      simp (maxSteps := 10000000) [SX.vc, SX.stop, SX.contS, SX.contB, SX.contW, SX.contR, SX.contD, SX.sxStep, SX.stepPure, SX.stepNew, SX.stepStore, SX.stepKeep, SX.guardIx, SX.evOp, SX.opd, SX.opds, SX.optOpd, SX.look, SX.putS, SX.gobs, SX.AllP, SX.leave, SX.lookC, SX.lookB, SX.lookT, SX.lookN, SX.findK, SX.evBuiltin, SX.ints, SX.foldI, SX.evBin, SX.evInt, SX.evStr, SX.evEq, SX.arith, SX.evLoad, SX.shapeUp, SX.evFieldAddr, SX.evField, SX.evIndexAddr, SX.evIndex, SX.evFill, SX.evBuild, SX.szs, SX.cellsV, SX.evNew, SX.evStore, SX.spliceL, SX.SV.cells, SX.evConv, SX.evSlice, SX.bnd, SX.evNil, SX.evUn, SX.evPick, SX.pickOpd, SX.popTo, SX.cnd, SX.env0, SX.TD.isAgg, SX.TD.isIface, SX.tails, SX.NotAgg, SX.evLookup, SX.evConvH, SX.evPtrEq, SX.isCells, SX.thaw, SX.frz, SX.fixB, SX.rootIx, SX.Froz, SX.frzStep, SX.fork, Go.Value.cells, Go.undef, cfg9, hrk]
      refine ⟨by (unfold SX.Ob; first | trivial | omega | ((try simp only [SX.inK]); (try simp [SX.den, SX.IsU8, SX.AllP, *]); (try omega))), ?_⟩
      intro a9 w9 hr9' _
      have hr9 := h8.unbase hr9'
      have hO9 := (hO8.mono (P' := fun x => bo < x ∧ sM < x) fun x _ h => by
        rcases h with h | h
        · have := h.1; omega
        · omega).keep hr9'.keeps (by simp [frameAt, mutB])
      exact post_inv ⟨adV, lV, cpV, _, hlV, hO9, fun _ => rfl, hr9.re (by simp [envTo, SX.look, den]) hr9.all rfl rfl⟩
    · refine seg cfg9_ok mixed PanicFree.body 1000 [] [] hr5.rebase (by first | trivial | exact HpRep.nil | assumption) (by kernel_rfl) fun sL hsL => ?_
      simp (maxSteps := 10000000) [SX.vc, SX.stop, SX.contS, SX.contB, SX.contW, SX.contR, SX.contD, SX.sxStep, SX.stepPure, SX.stepNew, SX.stepStore, SX.stepKeep, SX.guardIx, SX.evOp, SX.opd, SX.opds, SX.optOpd, SX.look, SX.putS, SX.gobs, SX.AllP, SX.leave, SX.lookC, SX.lookB, SX.lookT, SX.lookN, SX.findK, SX.evBuiltin, SX.ints, SX.foldI, SX.evBin, SX.evInt, SX.evStr, SX.evEq, SX.arith, SX.evLoad, SX.shapeUp, SX.evFieldAddr, SX.evField, SX.evIndexAddr, SX.evIndex, SX.evFill, SX.evBuild, SX.szs, SX.cellsV, SX.evNew, SX.evStore, SX.spliceL, SX.SV.cells, SX.evConv, SX.evSlice, SX.bnd, SX.evNil, SX.evUn, SX.evPick, SX.pickOpd, SX.popTo, SX.cnd, SX.env0, SX.TD.isAgg, SX.TD.isIface, SX.tails, SX.NotAgg, SX.evLookup, SX.evConvH, SX.evPtrEq, SX.isCells, SX.thaw, SX.frz, SX.fixB, SX.rootIx, SX.Froz, SX.frzStep, SX.fork, Go.Value.cells, Go.undef, cfg9, mgC]
      refine ⟨by (unfold SX.Ob; first | trivial | omega | ((try simp only [SX.inK]); (try simp [SX.den, SX.IsU8, SX.AllP, *]); (try omega))), ?_⟩
      intro a6 w6 hr6' ht6
      have hr6 := hr5.unbase hr6'
      have z56 : w5.heap.size ≤ w6.heap.size := hr6'.keeps.size
      refine post_callD 21 [.v (.slice s.ad s.S.length s.cp)] hr6 rfl (by first | exact wanted_none rfl | exact wanted_zero (hr6.env.same rfl rfl rfl rfl) rfl (by simp) | exact wanted_zero (hr6.env.same rfl rfl rfl rfl) rfl (by simp [*])) rfl (callable 21 Try.func21) (Sd.clone_all w6 _ s.S (hRS.below hr6.keeps.toBelow) (by omega)) ?_
      rintro e7 w7 ⟨v6, rfl, hO7a, hb7⟩
      have ht7 := HpRep_below ht6 hb7
      refine ⟨_, rfl, ht7, ?_⟩
      have hr7 := hr6.ret hb7 73 (.v v6) rfl _ (hr6.all.below hb7) (by simp) rfl
      have z67 : w6.heap.size ≤ w7.heap.size := hb7.size
      have hO7 := hO7a.mono (P' := fun x => w5.heap.size ≤ x ∧ w6.heap.size ≤ x) fun x h1 h2 => ⟨by omega, h2⟩
      have hsL6 := SO.rep_lt hr6.all.2.2.1.1
      have hsL : w5.heap.size ≤ sL := by
        rcases hr6'.all.2.2.1.2.1 rfl with h | h
        · exact h
        · simp [frameAt, mutB] at h; omega
      have hsQ : ¬ (w5.heap.size ≤ sL ∧ w6.heap.size ≤ sL) := fun h => by omega
      have hs7 : (SO.arr 0 1 (fun _ => sadC ⟨i, m⟩) 7 55 (0, 0)).rep w7 sL := rep_arr_sub hr7.all.2.2.1.1 (Nat.le_refl _) (fun j hj => by
        obtain rfl : j = 0 := by omega
        simp [sadC])
      refine post_callD 20 [.v v6, .v (.int .i64 q), .sl 2 sL 0 0 1 1 7] hr7 rfl (wanted_none rfl) rfl (callable 20 Try.func20) (Sd.insert_ok w7 v6 s.S hO7 q hq.1 (by omega) sL 55 ⟨i, m⟩ hs7 hsQ) ?_
      rintro e8 w8 ⟨V, B, rfl, hO8, hB, hk8⟩
      have hBge : ∀ x ∈ B, w5.heap.size ≤ x := fun x hx => (hB x hx).1.1
      have z8 : w7.heap.size ≤ w8.heap.size := hk8.size
      have ht8 := HpRep.to ht7 hk8 (fun e he hb => by
        have := hBge _ hb
        simp [thaw] at he
        rcases he with rfl | rfl <;> (simp at this; omega))
      refine ⟨_, rfl, ht8, ?_⟩
      have h8 := hr7.retK hk8 (fun x hx => .inl (Nat.le_trans z5 (hBge x hx))) 79 (.v V) rfl _ (HpAll.to hk8 (hr7.all.take 2) (fun e he hb => by
        have := hBge _ hb
        simp at he
        rcases he with rfl | rfl <;> (simp at this; omega))) (by simp) rfl
      obtain ⟨adV, lV, cpV, rfl, hlV⟩ : ∃ ad n cp, V = Value.slice ad n cp ∧ n = (s.S.take q ++ (⟨i, m⟩ : Sad) :: s.S.drop q).length := by
        obtain ⟨x1, x2, h1⟩ := hO8.slice
        exact ⟨_, _, _, h1, rfl⟩
      refine seg cfg9_ok mixed PanicFree.body 1000 [] [] h8.rebase (by first | trivial | exact HpRep.nil | assumption) (by kernel_rfl) fun s_ hs_ => ?_
      simp (maxSteps := 10000000) [SX.vc, SX.stop, SX.contS, SX.contB, SX.contW, SX.contR, SX.contD, SX.sxStep, SX.stepPure, SX.stepNew, SX.stepStore, SX.stepKeep, SX.guardIx, SX.evOp, SX.opd, SX.opds, SX.optOpd, SX.look, SX.putS, SX.gobs, SX.AllP, SX.leave, SX.lookC, SX.lookB, SX.lookT, SX.lookN, SX.findK, SX.evBuiltin, SX.ints, SX.foldI, SX.evBin, SX.evInt, SX.evStr, SX.evEq, SX.arith, SX.evLoad, SX.shapeUp, SX.evFieldAddr, SX.evField, SX.evIndexAddr, SX.evIndex, SX.evFill, SX.evBuild, SX.szs, SX.cellsV, SX.evNew, SX.evStore, SX.spliceL, SX.SV.cells, SX.evConv, SX.evSlice, SX.bnd, SX.evNil, SX.evUn, SX.evPick, SX.pickOpd, SX.popTo, SX.cnd, SX.env0, SX.TD.isAgg, SX.TD.isIface, SX.tails, SX.NotAgg, SX.evLookup, SX.evConvH, SX.evPtrEq, SX.isCells, SX.thaw, SX.frz, SX.fixB, SX.rootIx, SX.Froz, SX.frzStep, SX.fork, Go.Value.cells, Go.undef, cfg9, hrk]
      refine ⟨by (unfold SX.Ob; first | trivial | omega | ((try simp only [SX.inK]); (try simp [SX.den, SX.IsU8, SX.AllP, *]); (try omega))), ?_⟩
      intro a9 w9 hr9' _
      have hr9 := h8.unbase hr9'
      have hO9 := (hO8.mono (P' := fun x => bo < x ∧ sM < x) fun x _ h => by
        rcases h with h | h
        · have := h.1; omega
        · omega).keep hr9'.keeps (by simp [frameAt, mutB])
      exact post_inv ⟨adV, lV, cpV, _, hlV, hO9, fun _ => rfl, hr9.re (by simp [envTo, SX.look, den]) hr9.all rfl rfl⟩
  obtain ⟨ad2, n2, cp2, row2, hn2, hO2, hrow2, hr5⟩ := hJ
  have hrk2 : row2 k = [.v (.int .i64 s.frm), .v (.int .i64 s.below), .v (.slice ad2 n2 cp2)] := by rw [hrow2, if_pos rfl]
  obtain ⟨Q, hQ⟩ : ∃ Q, s.S.take q ++ (⟨i, m⟩ : Sad) :: s.S.drop q = Q := ⟨_, rfl⟩
  have hQl : n2 = s.S.length + 1 := by rw [hn2]; simp; have := hq.1; omega
  rw [hQ] at hn2 hO2
  have hin : ∀ {w'}, Below w.heap.size w w' → ∀ t ∈ L1, RdA (fun x => P x ∨ w.heap.size ≤ x) w' (.slice t.ad t.S.length t.cp) t.S := fun hb t ht => by
    obtain ⟨_, _, ⟨rfl, h⟩ | ⟨_, rfl, _, rfl, _⟩⟩ := hIn
    · exact ((hL.2 t ht).below hb).mono fun x _ h => .inl h
    · rcases List.mem_append.1 ht with ht | ht
      · exact ((hL.2 t (List.mem_of_mem_take ht)).below hb).mono fun x _ h => .inl h
      rcases List.mem_cons.1 ht with rfl | ht
      · exact .inl ⟨rfl, _, _, rfl⟩
      · exact ((hL.2 t (List.mem_of_mem_drop ht)).below hb).mono fun x _ h => .inl h
  by_cases h8 : n2 ≤ 8
  · have h8' : ¬ (8 : Int) < (n2 : Int) := by omega
    refine seg cfg9_ok mixed PanicFree.body 1000 [false] [] hr5.rebase (by first | trivial | exact HpRep.nil | assumption) (by kernel_rfl) fun s_ hs_ => ?_
    simp (maxSteps := 10000000) [SX.vc, SX.stop, SX.contS, SX.contB, SX.contW, SX.contR, SX.contD, SX.sxStep, SX.stepPure, SX.stepNew, SX.stepStore, SX.stepKeep, SX.guardIx, SX.evOp, SX.opd, SX.opds, SX.optOpd, SX.look, SX.putS, SX.gobs, SX.AllP, SX.leave, SX.lookC, SX.lookB, SX.lookT, SX.lookN, SX.findK, SX.evBuiltin, SX.ints, SX.foldI, SX.evBin, SX.evInt, SX.evStr, SX.evEq, SX.arith, SX.evLoad, SX.shapeUp, SX.evFieldAddr, SX.evField, SX.evIndexAddr, SX.evIndex, SX.evFill, SX.evBuild, SX.szs, SX.cellsV, SX.evNew, SX.evStore, SX.spliceL, SX.SV.cells, SX.evConv, SX.evSlice, SX.bnd, SX.evNil, SX.evUn, SX.evPick, SX.pickOpd, SX.popTo, SX.cnd, SX.env0, SX.TD.isAgg, SX.TD.isIface, SX.tails, SX.NotAgg, SX.evLookup, SX.evConvH, SX.evPtrEq, SX.isCells, SX.thaw, SX.frz, SX.fixB, SX.rootIx, SX.Froz, SX.frzStep, SX.fork, Go.Value.cells, Go.undef, cfg9, hrk2, h8']
    refine ⟨by (unfold SX.Ob; first | trivial | omega | ((try simp only [SX.inK]); (try simp [SX.den, SX.IsU8, SX.AllP, *]); (try omega))), ?_⟩
    intro a6 w6 hr6' _
    have hr6 := hr5.unbase hr6'
    have hO6 := hO2.keep hr6'.keeps (by simp [frameAt, mutB])
    have hD := doneTo_of (s' := ⟨s.frm, s.below, ad2, cp2, Q⟩) (x := ⟨i, m⟩) hC (by omega) hIn hb0 hno ⟨rfl, q, hq.1, hq, fun _ => ⟨rfl, hQ.symm⟩, fun h => by omega⟩
    refine post_retn (end2 hr6 rfl rfl rfl ⟨.slice (some ⟨bo, 0, none⟩) L1.length cp1, L1.set k ⟨s.frm, s.below, ad2, cp2, Q⟩, by rw [hE0]; simp [den, denL], ⟨.inr ⟨by rw [List.length_set]; omega, bo, 0, cp1, u, (0, 0), .inr (by omega), by simp, rep_arr_sub hr6.all.2.1.1 (by rw [List.length_set]; omega) (fun j hj => ?_), by rw [List.length_set]; omega⟩, fun t ht => ?_⟩, fun _ => hD, fun h => absurd hE0 h, hr6.keeps.toBelow⟩).1
    · rw [List.length_set] at hj
      rw [hrow2, nth_set hkL]
      by_cases hjk : j = k
      · rw [if_pos hjk, if_pos hjk]; simp only [senC, ← hn2]
      · rw [if_neg hjk, if_neg hjk, hrow j hj]
    · rcases List.mem_or_eq_of_mem_set ht with ht | rfl
      · exact hin hr6.keeps.toBelow t ht
      · exact (hn2 ▸ hO6.rd).mono fun x _ h => .inr (by omega)
  · have h8' : (8 : Int) < (n2 : Int) := by omega
    have hQ0 : 0 < Q.length := by omega
    obtain ⟨b2, N2, cp2', u2, rowA, hP2, hv2, hd0, hd1, hd2, hrep2, hrowA⟩ := hO2.opn hQ0
    obtain ⟨e1, e2⟩ : ad2 = some ⟨b2, 0, none⟩ ∧ cp2 = cp2' := by cases hv2; exact ⟨rfl, rfl⟩
    subst e1 e2
    obtain ⟨y, hy⟩ : ∃ y, nth sad0 Q 0 = y := ⟨_, rfl⟩
    have hy60 : y.id ≤ 1152921504606846976 := by
      have hym : y ∈ Q := hy ▸ nth_mem hQ0
      rw [← hQ] at hym
      have hsS : ∀ t ∈ s.S, t.id ≤ 1152921504606846976 := fun t ht => by
        obtain ⟨_, _, ⟨rfl, h⟩ | ⟨_, rfl, _⟩⟩ := hIn
        · exact (hS s hsm).2 t ht
        · simp [newN] at ht
      rcases List.mem_append.1 hym with h | h
      · exact hsS y (List.mem_of_mem_take h)
      rcases List.mem_cons.1 h with rfl | h
      · exact hi60
      · exact hsS y (List.mem_of_mem_drop h)
    have hy0 : 0 ≤ y.id := by
      have hym : y ∈ Q := hy ▸ nth_mem hQ0
      rw [← hQ] at hym
      have hS := (chkS_pw.1 hos.2.2.2).1
      have hb1 := hos.2.1
      rcases List.mem_append.1 hym with h | h
      · have := hS y (List.mem_of_mem_take h); omega
      rcases List.mem_cons.1 h with rfl | h
      · show 0 ≤ i; omega
      · have := hS y (List.mem_of_mem_drop h); omega
    have hrA : rowA 0 = [.v (.int .i64 y.id), .v (.int .i64 y.m.kind), .v (.int .i64 y.m.frm), .v (.int .i64 y.m.to), .v (.int .i64 y.m.mid), .v (.slice y.m.a1 y.m.n1 y.m.c1), .v (.slice y.m.a2 y.m.n2 y.m.c2)] := by rw [hrowA 0 hQ0, hy]; rfl
    have hA5 := hr5.all
    have h6 := hr5.see [(sM, true, .cells (mgC m) 33), (bo, true, .arr 0 N (fun j => if j = k then [.v (.int .i64 s.frm), .v (.int .i64 s.below), .sl 2 b2 0 0 n2 cp2 7] else row j) 3 u (0, 0)), (b2, false, .arr 0 N2 rowA 7 u2 (0, 0))] ⟨⟨hA5.1.1, hA5.1.2.1, by simp; omega⟩, ⟨rep_arr_sub hA5.2.1.1 (Nat.le_refl _) (fun j hj => by
      rw [hrow2]
      by_cases hjk : j = k
      · rw [if_pos hjk, if_pos hjk, hn2]; simp [denL, den]
      · rw [if_neg hjk, if_neg hjk]), hA5.2.1.2.1, by simp; omega⟩, HpAll.one hrep2⟩
    refine seg cfg9_ok mixed PanicFree.body 1000 [true] [] h6.rebase (by first | trivial | exact HpRep.nil | assumption) (by kernel_rfl) fun s_ hs_ => ?_
    simp (maxSteps := 10000000) [SX.vc, SX.stop, SX.contS, SX.contB, SX.contW, SX.contR, SX.contD, SX.sxStep, SX.stepPure, SX.stepNew, SX.stepStore, SX.stepKeep, SX.guardIx, SX.evOp, SX.opd, SX.opds, SX.optOpd, SX.look, SX.putS, SX.gobs, SX.AllP, SX.leave, SX.lookC, SX.lookB, SX.lookT, SX.lookN, SX.findK, SX.evBuiltin, SX.ints, SX.foldI, SX.evBin, SX.evInt, SX.evStr, SX.evEq, SX.arith, SX.evLoad, SX.shapeUp, SX.evFieldAddr, SX.evField, SX.evIndexAddr, SX.evIndex, SX.evFill, SX.evBuild, SX.szs, SX.cellsV, SX.evNew, SX.evStore, SX.spliceL, SX.SV.cells, SX.evConv, SX.evSlice, SX.bnd, SX.evNil, SX.evUn, SX.evPick, SX.pickOpd, SX.popTo, SX.cnd, SX.env0, SX.TD.isAgg, SX.TD.isIface, SX.tails, SX.NotAgg, SX.evLookup, SX.evConvH, SX.evPtrEq, SX.isCells, SX.thaw, SX.frz, SX.fixB, SX.rootIx, SX.Froz, SX.frzStep, SX.fork, Go.Value.cells, Go.undef, cfg9, h8', hrA]
    refine ⟨by (unfold SX.Ob; first | trivial | omega | ((try simp only [SX.inK]); (try simp [SX.den, SX.IsU8, SX.AllP, *]); (try omega))), ?_⟩
    intro a7 w7 hr7' _
    have hr7 := h6.unbase hr7'
    have hcp : cp2 ≠ 1 := by omega
    have hrep7 := SO.rep_same hrep2 (hr7'.old (SO.rep_lt hrep2) (by simp [mutB]; omega))
    have hA7 := hr7.all
    have hD := doneTo_of (s' := ⟨s.frm, y.id + 1, some ⟨b2, 0 + 1 * 7, none⟩, cp2 - 1, Q.drop 1⟩) (x := ⟨i, m⟩) hC (by omega) hIn hb0 hno ⟨rfl, q, hq.1, hq, fun h => by omega, fun _ => ⟨by rw [hQ, hy], by rw [hQ]⟩⟩
    have hpt := RdS.part (P := fun x => bo < x ∧ sM < x) (L := Q) (enc := sadC) (d := sad0) (sz := 7) (base := 1) (len := n2 - 1) (cap := cp2 - 1) hP2 rfl (rep_arr_sub hrep7 (by omega) (fun j hj => by rw [hrowA j hj])) (by omega) (by omega)
    have htk : (Q.drop 1).take (n2 - 1) = Q.drop 1 := List.take_of_length_le (by simp; omega)
    rw [htk] at hpt
    have hdl : (Q.drop 1).length = n2 - 1 := by simp; omega
    refine post_retn (end2 hr7 rfl rfl rfl ⟨.slice (some ⟨bo, 0, none⟩) L1.length cp1, L1.set k ⟨s.frm, y.id + 1, some ⟨b2, 0 + 1 * 7, none⟩, cp2 - 1, Q.drop 1⟩, by rw [hE0]; simp [den, denL], ⟨.inr ⟨by rw [List.length_set]; omega, bo, 0, cp1, u, (0, 0), .inr (by omega), by simp, rep_arr_sub hA7.2.1.1 (by rw [List.length_set]; omega) (fun j hj => ?_), by rw [List.length_set]; omega⟩, fun t ht => ?_⟩, fun _ => hD, fun h => absurd hE0 h, hr7.keeps.toBelow⟩).1
    · rw [List.length_set] at hj
      rw [nth_set hkL]
      by_cases hjk : j = k
      · rw [if_pos hjk]
        subst hjk
        simp [setRow, senC, denL, den, hcp, hn2]
      · rw [if_neg hjk]
        simp only [setRow, if_neg hjk]
        rw [hrow j hj]
    · rcases List.mem_or_eq_of_mem_set ht with ht | rfl
      · exact hin hr7.keeps.toBelow t ht
      · simp only [hdl]
        exact hpt.mono fun x _ h => .inr (by omega)
end Go.Proofs
