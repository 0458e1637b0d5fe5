/- Requests: DedupKeeps walked. -/
import Derived.Test.YtffooiccklfhlaaNQ
import Derived.Test.YtffooiccklfhlaaNK
namespace Go.Proofs
set_option linter.unusedVariables false
set_option linter.unusedSimpArgs false
set_option linter.unusedSectionVars false
open Go Go.SX Go.RowKit

/-- Something is kept: the list is another one. -/
theorem done_other {L L' : List Sen} {f : Int} {x : Sad} (h : DoneTo L f x L') (hf : 0 ≤ f) (hk : askK L f x.id = 0) : ¬ (L'.length = L.length ∧ ∀ j, j < L'.length → Al23 (nth sen0 L' j) (nth sen0 L j)) := by
  rintro ⟨hl, hA⟩
  obtain ⟨s', hs', hU⟩ := h.self
  obtain ⟨hi, hC, hb, hno⟩ := ask_new hk
  have hlen := h.len
  rcases ho : ofN L f with _ | s
  · rw [ho] at hlen; simp at hlen; omega
  · have hg : getN L f = s := by rw [getN, ho]; rfl
    rw [hg] at hU hb
    obtain ⟨hm', hf'⟩ := ofN_some hs'
    obtain ⟨j, hj, hjs⟩ := List.mem_iff_getElem.1 hm'
    have h1 := hA j hj
    rw [nth_lt hj, hjs] at h1
    obtain ⟨a1, a2, a3⟩ := h1
    have hjL : j < L.length := by omega
    have e1 := ofN_mem (chkN_pw.1 hC).2 (nth_mem (d := sen0) hjL)
    rw [← a1, hf', ho] at e1
    injection e1 with e1
    rw [← e1] at a2 a3
    obtain ⟨_, q, hq, hp, hA8, hB8⟩ := hU
    by_cases h8 : s.S.length < 8
    · have := (hA8 h8).2
      rw [this] at a3
      simp at a3; omega
    · have e2 := (hB8 (by omega)).1
      have hok := (getN_ok (f := f) hC hf).1
      rw [hg] at hok
      have hS := (chkS_pw.1 hok.2.2.2).1
      have hmem : nth sad0 (s.S.take q ++ x :: s.S.drop q) 0 ∈ s.S.take q ++ x :: s.S.drop q := nth_mem (by simp; omega)
      generalize nth sad0 (s.S.take q ++ x :: s.S.drop q) 0 = y at *
      have : s.below ≤ y.id := by
        rcases List.mem_append.1 hmem with hy | hy
        · exact hS y (List.mem_of_mem_take hy)
        rcases List.mem_cons.1 hy with rfl | hy
        · exact hb
        · exact hS y (List.mem_of_mem_drop hy)
      omega

theorem done_good {P : Nat → Prop} {w : World} {L L' : List Sen} {f k : Int} {i : Int} (h : DoneTo L f ⟨i, mgK k⟩ L') (hL : ∀ s ∈ L, GoodA P w s.S) : ∀ s ∈ L', GoodA P w s.S := by
  intro t ht
  have hof := ofN_mem (chkN_pw.1 h.chk).2 ht
  by_cases hf : t.frm = f
  · obtain ⟨s', hs', hU⟩ := h.self
    rw [hf, hs'] at hof
    cases hof
    have hg : GoodA P w (getN L f).S := by
      unfold getN
      rcases ho : ofN L f with _ | s
      · intro x hx; simp [newN] at hx
      · exact hL s (ofN_some ho).1
    obtain ⟨_, q, hq, _, hA, hB⟩ := hU
    have hm : GoodA P w ((getN L f).S.take q ++ (⟨i, mgK k⟩ : Sad) :: (getN L f).S.drop q) := fun y hy => by
      rcases List.mem_append.1 hy with hy | hy
      · exact hg y (List.mem_of_mem_take hy)
      rcases List.mem_cons.1 hy with rfl | hy
      · exact ⟨RdM.mgK k, by simp [LitM, mgK]⟩
      · exact hg y (List.mem_of_mem_drop hy)
    by_cases h8 : (getN L f).S.length < 8
    · rw [(hA h8).2]; exact hm
    · rw [(hB (by omega)).2]; exact fun y hy => hm y (List.mem_of_mem_drop hy)
  · rw [h.other _ hf] at hof
    exact hL t (ofN_some hof).1

theorem ask_good {P : Nat → Prop} {w : World} {L : List Sen} {f i : Int} (hC : ChkN (-1) L) (hL : ∀ s ∈ L, GoodA P w s.S) : RdM P w (askM L f i) ∧ LitM (askM L f i) := by
  have h0 : RdM P w mg0 ∧ LitM mg0 := ⟨RdM.mgK 0, by simp [LitM, mg0]⟩
  rw [(ask_eq hC).2]
  split
  · exact h0
  · rcases ha : ansS (getN L f).S i with _ | x
    · exact h0
    · have hx := (ansS_some ha).1
      unfold getN at hx
      rcases ho : ofN L f with _ | s
      · rw [ho] at hx; simp [newN] at hx
      · rw [ho] at hx
        exact hL s (ofN_some ho).1 x hx

def KpLoop (w : World) (ops : List Opq) (vo : Value) (m : Nat) (a : Act) (w' : World) : Prop :=
  ∃ (k : Nat) (L : List Sen) (v : Value), m = ops.length - k ∧ k ≤ ops.length ∧ ChkN (-1) L ∧ SmallN L ∧ L.length ≤ 100 + k ∧ RdF (fun _ => True) w' v L ∧
    RepX (frame0 w) ⟨[(33, 0, .v (.int .i64 k)), (32, 0, .v (.int .i64 ops.length)), (31, 0, .v vo), (1, 0, .v vo), (0, 0, .v v), (4, 0, .v (.bool false)), (5, 0, .v (.bool true))], [], 0, 0, 127, [], [], []⟩ a w'

set_option maxRecDepth 100000 in
set_option maxHeartbeats 64000000 in
/-- DedupKeeps. -/
theorem keeps_ok (w : World) (v vo : Value) (L : List Sen) (ops : List Opq) (hD : RdD (fun _ => True) w v L) (hM : ∀ s ∈ L, ∀ x ∈ s.S, RdM (fun _ => True) w x.m) (hQ : RdQ (fun _ => True) w vo ops) (hn : L.length ≤ 1000000000000000) (hb : ∀ s ∈ L, s.S.length ≤ 1000000000000000 ∧ ∀ x ∈ s.S, x.m.n1 ≤ 1000000000000000 ∧ x.m.n2 ≤ 1000000000000000) (hno : ops.length ≤ 1000000000000000) : Calls Try.prog 4 (denL [.v v, .v vo]).toArray w (Ret w (.v (.bool true))) := by
  obtain ⟨ad, cp, rfl⟩ := hQ.slice
  refine enter (F := frame0 w) Try.func4 rfl [.v v, .v (.slice ad ops.length cp)] [] (by simp [Try.f4]) trivial (keeps0 w) fun a hr => ?_
  refine seg cfg4_ok mixed PanicFree.body 1000 [] [] hr (by first | trivial | exact HpRep.nil | assumption) (by kernel_rfl) fun s_ hs_ => ?_
  simp (maxSteps := 10000000) [SX.vc, SX.stop, SX.contS, SX.contB, SX.contW, SX.contR, SX.contD, SX.sxStep, SX.stepPure, SX.stepNew, SX.stepStore, SX.stepKeep, SX.guardIx, SX.evOp, SX.opd, SX.opds, SX.optOpd, SX.look, SX.putS, SX.gobs, SX.AllP, SX.leave, SX.lookC, SX.lookB, SX.lookT, SX.lookN, SX.findK, SX.evBuiltin, SX.ints, SX.foldI, SX.evBin, SX.evInt, SX.evStr, SX.evEq, SX.arith, SX.evLoad, SX.shapeUp, SX.evFieldAddr, SX.evField, SX.evIndexAddr, SX.evIndex, SX.evFill, SX.evBuild, SX.szs, SX.cellsV, SX.evNew, SX.evStore, SX.spliceL, SX.SV.cells, SX.evConv, SX.evSlice, SX.bnd, SX.evNil, SX.evUn, SX.evPick, SX.pickOpd, SX.popTo, SX.cnd, SX.env0, SX.TD.isAgg, SX.TD.isIface, SX.tails, SX.NotAgg, SX.evLookup, SX.evConvH, SX.evPtrEq, SX.isCells, SX.thaw, SX.frz, SX.fixB, SX.rootIx, SX.Froz, SX.frzStep, SX.fork, Go.Value.cells, Go.undef, cfg4, Try.f4]
  refine ⟨by (unfold SX.Ob; first | trivial | omega | ((try simp only [SX.inK]); (try simp [SX.den, SX.IsU8, SX.AllP, *]); (try omega))), ?_⟩
  intro a1 w1 hr1 _
  refine post_call 7 [] hr1 (by first | exact wanted_none rfl | exact wanted_zero (hr1.env.same rfl rfl rfl rfl) rfl (by simp) | exact wanted_zero (hr1.env.same rfl rfl rfl rfl) rfl (by simp [*])) rfl (callable 7 Try.func7) (live_ok w1) ?_
  rintro e2 w2 ⟨rfl, hb2⟩
  refine ⟨_, rfl, ?_⟩
  have h2 := hr1.ret hb2 16 (.v (.bool true)) rfl _ (hr1.all.below hb2) (by simp) rfl
  refine seg cfg4_ok mixed PanicFree.body 1000 [] [] h2 (by first | trivial | exact HpRep.nil | assumption) (by kernel_rfl) fun s_ hs_ => ?_
  simp (maxSteps := 10000000) [SX.vc, SX.stop, SX.contS, SX.contB, SX.contW, SX.contR, SX.contD, SX.sxStep, SX.stepPure, SX.stepNew, SX.stepStore, SX.stepKeep, SX.guardIx, SX.evOp, SX.opd, SX.opds, SX.optOpd, SX.look, SX.putS, SX.gobs, SX.AllP, SX.leave, SX.lookC, SX.lookB, SX.lookT, SX.lookN, SX.findK, SX.evBuiltin, SX.ints, SX.foldI, SX.evBin, SX.evInt, SX.evStr, SX.evEq, SX.arith, SX.evLoad, SX.shapeUp, SX.evFieldAddr, SX.evField, SX.evIndexAddr, SX.evIndex, SX.evFill, SX.evBuild, SX.szs, SX.cellsV, SX.evNew, SX.evStore, SX.spliceL, SX.SV.cells, SX.evConv, SX.evSlice, SX.bnd, SX.evNil, SX.evUn, SX.evPick, SX.pickOpd, SX.popTo, SX.cnd, SX.env0, SX.TD.isAgg, SX.TD.isIface, SX.tails, SX.NotAgg, SX.evLookup, SX.evConvH, SX.evPtrEq, SX.isCells, SX.thaw, SX.frz, SX.fixB, SX.rootIx, SX.Froz, SX.frzStep, SX.fork, Go.Value.cells, Go.undef, cfg4]
  refine ⟨by (unfold SX.Ob; first | trivial | omega | ((try simp only [SX.inK]); (try simp [SX.den, SX.IsU8, SX.AllP, *]); (try omega))), ?_⟩
  intro a3 w3 hr3 _
  refine post_call 11 [.v v] hr3 (by first | exact wanted_none rfl | exact wanted_zero (hr3.env.same rfl rfl rfl rfl) rfl (by simp) | exact wanted_zero (hr3.env.same rfl rfl rfl rfl) rfl (by simp [*])) rfl (callable 11 Try.func11) (few_ok w3 v L (hD.below hr3.keeps.toBelow) hn hb) ?_
  rintro e4 w4 ⟨rfl, hb4⟩
  refine ⟨_, rfl, ?_⟩
  have h4 := hr3.ret hb4 18 (.v (.bool (decide (FewN L)))) rfl _ (hr3.all.below hb4) (by simp) rfl
  by_cases hF : FewN L
  rotate_left
  · refine seg cfg4_ok mixed PanicFree.body 1000 [true] [(20, true), (25, true)] h4 (by first | trivial | exact HpRep.nil | assumption) (by kernel_rfl) fun s_ hs_ => ?_
    simp (maxSteps := 10000000) [SX.vc, SX.stop, SX.contS, SX.contB, SX.contW, SX.contR, SX.contD, SX.sxStep, SX.stepPure, SX.stepNew, SX.stepStore, SX.stepKeep, SX.guardIx, SX.evOp, SX.opd, SX.opds, SX.optOpd, SX.look, SX.putS, SX.gobs, SX.AllP, SX.leave, SX.lookC, SX.lookB, SX.lookT, SX.lookN, SX.findK, SX.evBuiltin, SX.ints, SX.foldI, SX.evBin, SX.evInt, SX.evStr, SX.evEq, SX.arith, SX.evLoad, SX.shapeUp, SX.evFieldAddr, SX.evField, SX.evIndexAddr, SX.evIndex, SX.evFill, SX.evBuild, SX.szs, SX.cellsV, SX.evNew, SX.evStore, SX.spliceL, SX.SV.cells, SX.evConv, SX.evSlice, SX.bnd, SX.evNil, SX.evUn, SX.evPick, SX.pickOpd, SX.popTo, SX.cnd, SX.env0, SX.TD.isAgg, SX.TD.isIface, SX.tails, SX.NotAgg, SX.evLookup, SX.evConvH, SX.evPtrEq, SX.isCells, SX.thaw, SX.frz, SX.fixB, SX.rootIx, SX.Froz, SX.frzStep, SX.fork, Go.Value.cells, Go.undef, cfg4, hF]
    refine ⟨by (unfold SX.Ob; first | trivial | omega | ((try simp only [SX.inK]); (try simp [SX.den, SX.IsU8, SX.AllP, *]); (try omega))), ?_⟩
    intro a5 w5 hr5 _
    exact post_retn (end1 hr5 rfl rfl ⟨rfl, hr5.keeps.toBelow⟩).1
  by_cases hF2 : ops.length ≤ 100
  rotate_left
  · have hF' : (100 : Int) < (ops.length : Int) := by omega
    refine seg cfg4_ok mixed PanicFree.body 1000 [true] [(20, false), (25, true)] h4 (by first | trivial | exact HpRep.nil | assumption) (by kernel_rfl) fun s_ hs_ => ?_
    simp (maxSteps := 10000000) [SX.vc, SX.stop, SX.contS, SX.contB, SX.contW, SX.contR, SX.contD, SX.sxStep, SX.stepPure, SX.stepNew, SX.stepStore, SX.stepKeep, SX.guardIx, SX.evOp, SX.opd, SX.opds, SX.optOpd, SX.look, SX.putS, SX.gobs, SX.AllP, SX.leave, SX.lookC, SX.lookB, SX.lookT, SX.lookN, SX.findK, SX.evBuiltin, SX.ints, SX.foldI, SX.evBin, SX.evInt, SX.evStr, SX.evEq, SX.arith, SX.evLoad, SX.shapeUp, SX.evFieldAddr, SX.evField, SX.evIndexAddr, SX.evIndex, SX.evFill, SX.evBuild, SX.szs, SX.cellsV, SX.evNew, SX.evStore, SX.spliceL, SX.SV.cells, SX.evConv, SX.evSlice, SX.bnd, SX.evNil, SX.evUn, SX.evPick, SX.pickOpd, SX.popTo, SX.cnd, SX.env0, SX.TD.isAgg, SX.TD.isIface, SX.tails, SX.NotAgg, SX.evLookup, SX.evConvH, SX.evPtrEq, SX.isCells, SX.thaw, SX.frz, SX.fixB, SX.rootIx, SX.Froz, SX.frzStep, SX.fork, Go.Value.cells, Go.undef, cfg4, hF, hF']
    refine ⟨by (unfold SX.Ob; first | trivial | omega | ((try simp only [SX.inK]); (try simp [SX.den, SX.IsU8, SX.AllP, *]); (try omega))), ?_⟩
    intro a5 w5 hr5 _
    exact post_retn (end1 hr5 rfl rfl ⟨rfl, hr5.keeps.toBelow⟩).1
  have hF' : ¬ (100 : Int) < (ops.length : Int) := by omega
  have hS : SmallN L := fun s hs => ⟨by have := (hF.1 s hs).2.1; omega, fun x hx => ((hF.1 s hs).2.2 x hx).1⟩
  refine seg cfg4_ok mixed PanicFree.body 1000 [] [(20, false), (25, false)] h4 (by first | trivial | exact HpRep.nil | assumption) (by kernel_rfl) fun s_ hs_ => ?_
  simp (maxSteps := 10000000) [SX.vc, SX.stop, SX.contS, SX.contB, SX.contW, SX.contR, SX.contD, SX.sxStep, SX.stepPure, SX.stepNew, SX.stepStore, SX.stepKeep, SX.guardIx, SX.evOp, SX.opd, SX.opds, SX.optOpd, SX.look, SX.putS, SX.gobs, SX.AllP, SX.leave, SX.lookC, SX.lookB, SX.lookT, SX.lookN, SX.findK, SX.evBuiltin, SX.ints, SX.foldI, SX.evBin, SX.evInt, SX.evStr, SX.evEq, SX.arith, SX.evLoad, SX.shapeUp, SX.evFieldAddr, SX.evField, SX.evIndexAddr, SX.evIndex, SX.evFill, SX.evBuild, SX.szs, SX.cellsV, SX.evNew, SX.evStore, SX.spliceL, SX.SV.cells, SX.evConv, SX.evSlice, SX.bnd, SX.evNil, SX.evUn, SX.evPick, SX.pickOpd, SX.popTo, SX.cnd, SX.env0, SX.TD.isAgg, SX.TD.isIface, SX.tails, SX.NotAgg, SX.evLookup, SX.evConvH, SX.evPtrEq, SX.isCells, SX.thaw, SX.frz, SX.fixB, SX.rootIx, SX.Froz, SX.frzStep, SX.fork, Go.Value.cells, Go.undef, cfg4, hF, hF']
  refine ⟨by (unfold SX.Ob; first | trivial | omega | ((try simp only [SX.inK]); (try simp [SX.den, SX.IsU8, SX.AllP, *]); (try omega))), ?_⟩
  intro a5 w5 hr5 _
  refine post_call 10 [.v v] hr5 (by first | exact wanted_none rfl | exact wanted_zero (hr5.env.same rfl rfl rfl rfl) rfl (by simp) | exact wanted_zero (hr5.env.same rfl rfl rfl rfl) rfl (by simp [*])) rfl (callable 10 Try.func10) (rcheck_ok w5 v L (hD.below hr5.keeps.toBelow) hS (by omega)) ?_
  rintro e6 w6 ⟨rfl, hb6⟩
  refine ⟨_, rfl, ?_⟩
  have h6 := hr5.ret hb6 27 (.v (.int .i64 (chkN L))) rfl _ (hr5.all.below hb6) (by simp) rfl
  by_cases hC : ChkN (-1) L
  rotate_left
  · have hc : chkN L = 1 := if_neg hC
    refine seg cfg4_ok mixed PanicFree.body 1000 [true] [(20, false), (25, false)] h6 (by first | trivial | exact HpRep.nil | assumption) (by kernel_rfl) fun s_ hs_ => ?_
    simp (maxSteps := 10000000) [SX.vc, SX.stop, SX.contS, SX.contB, SX.contW, SX.contR, SX.contD, SX.sxStep, SX.stepPure, SX.stepNew, SX.stepStore, SX.stepKeep, SX.guardIx, SX.evOp, SX.opd, SX.opds, SX.optOpd, SX.look, SX.putS, SX.gobs, SX.AllP, SX.leave, SX.lookC, SX.lookB, SX.lookT, SX.lookN, SX.findK, SX.evBuiltin, SX.ints, SX.foldI, SX.evBin, SX.evInt, SX.evStr, SX.evEq, SX.arith, SX.evLoad, SX.shapeUp, SX.evFieldAddr, SX.evField, SX.evIndexAddr, SX.evIndex, SX.evFill, SX.evBuild, SX.szs, SX.cellsV, SX.evNew, SX.evStore, SX.spliceL, SX.SV.cells, SX.evConv, SX.evSlice, SX.bnd, SX.evNil, SX.evUn, SX.evPick, SX.pickOpd, SX.popTo, SX.cnd, SX.env0, SX.TD.isAgg, SX.TD.isIface, SX.tails, SX.NotAgg, SX.evLookup, SX.evConvH, SX.evPtrEq, SX.isCells, SX.thaw, SX.frz, SX.fixB, SX.rootIx, SX.Froz, SX.frzStep, SX.fork, Go.Value.cells, Go.undef, cfg4, hc]
    refine ⟨by (unfold SX.Ob; first | trivial | omega | ((try simp only [SX.inK]); (try simp [SX.den, SX.IsU8, SX.AllP, *]); (try omega))), ?_⟩
    intro a7 w7 hr7 _
    exact post_retn (end1 hr7 rfl rfl ⟨rfl, hr7.keeps.toBelow⟩).1
  have hc : chkN L = 0 := if_pos hC
  refine seg cfg4_ok mixed PanicFree.body 1000 [false] [(20, false), (25, false)] h6 (by first | trivial | exact HpRep.nil | assumption) (by kernel_rfl) fun s_ hs_ => ?_
  simp (maxSteps := 10000000) [SX.vc, SX.stop, SX.contS, SX.contB, SX.contW, SX.contR, SX.contD, SX.sxStep, SX.stepPure, SX.stepNew, SX.stepStore, SX.stepKeep, SX.guardIx, SX.evOp, SX.opd, SX.opds, SX.optOpd, SX.look, SX.putS, SX.gobs, SX.AllP, SX.leave, SX.lookC, SX.lookB, SX.lookT, SX.lookN, SX.findK, SX.evBuiltin, SX.ints, SX.foldI, SX.evBin, SX.evInt, SX.evStr, SX.evEq, SX.arith, SX.evLoad, SX.shapeUp, SX.evFieldAddr, SX.evField, SX.evIndexAddr, SX.evIndex, SX.evFill, SX.evBuild, SX.szs, SX.cellsV, SX.evNew, SX.evStore, SX.spliceL, SX.SV.cells, SX.evConv, SX.evSlice, SX.bnd, SX.evNil, SX.evUn, SX.evPick, SX.pickOpd, SX.popTo, SX.cnd, SX.env0, SX.TD.isAgg, SX.TD.isIface, SX.tails, SX.NotAgg, SX.evLookup, SX.evConvH, SX.evPtrEq, SX.isCells, SX.thaw, SX.frz, SX.fixB, SX.rootIx, SX.Froz, SX.frzStep, SX.fork, Go.Value.cells, Go.undef, cfg4, hc]
  refine ⟨by (unfold SX.Ob; first | trivial | omega | ((try simp only [SX.inK]); (try simp [SX.den, SX.IsU8, SX.AllP, *]); (try omega))), ?_⟩
  intro a7 w7 hr7 _
  have hG : RdF (fun _ => True) w v L := ⟨hD, fun s hs x hx => ⟨hM s hs x hx, by have := ((hF.1 s hs).2.2 x hx).2; exact ⟨by omega, by omega⟩⟩⟩
  refine post_loop (KpLoop w ops (.slice ad ops.length cp)) ops.length ⟨0, L, v, rfl, by omega, hC, hS, hF.2, hG.below hr7.keeps.toBelow, hr7.re (by simp [envTo, SX.look]) trivial rfl rfl⟩ ?_
  clear hr hr1 h2 hr3 h4 hr5 h6 hr7 hc hC hS hF hG hn hb hD hM
  rintro m a8 w8 ⟨k, L, v, rfl, hk, hC, hS, hlen, hR, hr8⟩
  have hc : chkN L = 0 := if_pos hC
  by_cases hlt : k < ops.length
  rotate_left
  · obtain rfl : k = ops.length := by omega
    refine seg cfg4_ok mixed PanicFree.body 1000 [false] [] hr8 (by first | trivial | exact HpRep.nil | assumption) (by kernel_rfl) fun s_ hs_ => ?_
    simp (maxSteps := 10000000) [SX.vc, SX.stop, SX.contS, SX.contB, SX.contW, SX.contR, SX.contD, SX.sxStep, SX.stepPure, SX.stepNew, SX.stepStore, SX.stepKeep, SX.guardIx, SX.evOp, SX.opd, SX.opds, SX.optOpd, SX.look, SX.putS, SX.gobs, SX.AllP, SX.leave, SX.lookC, SX.lookB, SX.lookT, SX.lookN, SX.findK, SX.evBuiltin, SX.ints, SX.foldI, SX.evBin, SX.evInt, SX.evStr, SX.evEq, SX.arith, SX.evLoad, SX.shapeUp, SX.evFieldAddr, SX.evField, SX.evIndexAddr, SX.evIndex, SX.evFill, SX.evBuild, SX.szs, SX.cellsV, SX.evNew, SX.evStore, SX.spliceL, SX.SV.cells, SX.evConv, SX.evSlice, SX.bnd, SX.evNil, SX.evUn, SX.evPick, SX.pickOpd, SX.popTo, SX.cnd, SX.env0, SX.TD.isAgg, SX.TD.isIface, SX.tails, SX.NotAgg, SX.evLookup, SX.evConvH, SX.evPtrEq, SX.isCells, SX.thaw, SX.frz, SX.fixB, SX.rootIx, SX.Froz, SX.frzStep, SX.fork, Go.Value.cells, Go.undef, cfg4]
    refine ⟨by (unfold SX.Ob; first | trivial | omega | ((try simp only [SX.inK]); (try simp [SX.den, SX.IsU8, SX.AllP, *]); (try omega))), ?_⟩
    intro a9 w9 hr9 _
    exact post_retn (end1 hr9 rfl rfl ⟨rfl, hr9.keeps.toBelow⟩).1
  obtain ⟨b, o0, cap, u, fz, hP, hv, hrep⟩ := (hQ.below hr8.keeps.toBelow).opn hlt
  cases hv
  obtain ⟨o, ho⟩ : ∃ o, nth opq0 ops k = o := ⟨_, rfl⟩
  have h9 := (hr8.top 31 (.sl 0 b o0 0 ops.length cp 4) rfl (by simp [den])).see [(b, false, .arr o0 ops.length (fun j => opqC (nth opq0 ops j)) 4 u fz)] (HpAll.one hrep)
  by_cases d1 : 1152921504606846976 < o.id
  · refine seg cfg4_ok mixed PanicFree.body 1000 [true, true] [] h9 (by first | trivial | exact HpRep.nil | assumption) (by kernel_rfl) fun s_ hs_ => ?_
    simp (maxSteps := 10000000) [SX.vc, SX.stop, SX.contS, SX.contB, SX.contW, SX.contR, SX.contD, SX.sxStep, SX.stepPure, SX.stepNew, SX.stepStore, SX.stepKeep, SX.guardIx, SX.evOp, SX.opd, SX.opds, SX.optOpd, SX.look, SX.putS, SX.gobs, SX.AllP, SX.leave, SX.lookC, SX.lookB, SX.lookT, SX.lookN, SX.findK, SX.evBuiltin, SX.ints, SX.foldI, SX.evBin, SX.evInt, SX.evStr, SX.evEq, SX.arith, SX.evLoad, SX.shapeUp, SX.evFieldAddr, SX.evField, SX.evIndexAddr, SX.evIndex, SX.evFill, SX.evBuild, SX.szs, SX.cellsV, SX.evNew, SX.evStore, SX.spliceL, SX.SV.cells, SX.evConv, SX.evSlice, SX.bnd, SX.evNil, SX.evUn, SX.evPick, SX.pickOpd, SX.popTo, SX.cnd, SX.env0, SX.TD.isAgg, SX.TD.isIface, SX.tails, SX.NotAgg, SX.evLookup, SX.evConvH, SX.evPtrEq, SX.isCells, SX.thaw, SX.frz, SX.fixB, SX.rootIx, SX.Froz, SX.frzStep, SX.fork, Go.Value.cells, Go.undef, cfg4, opqC, ho, d1]
    refine ⟨by (unfold SX.Ob; first | trivial | omega | ((try simp only [SX.inK]); (try simp [SX.den, SX.IsU8, SX.AllP, *]); (try omega))), ?_⟩
    intro a10 w10 hr10 _
    exact post_retn (end1 hr10 rfl rfl ⟨rfl, hr10.keeps.toBelow⟩).1
  refine seg cfg4_ok mixed PanicFree.body 1000 [true, false] [] h9.rebase (by first | trivial | exact HpRep.nil | assumption) (by kernel_rfl) fun sO hsO => ?_
  simp (maxSteps := 10000000) [SX.vc, SX.stop, SX.contS, SX.contB, SX.contW, SX.contR, SX.contD, SX.sxStep, SX.stepPure, SX.stepNew, SX.stepStore, SX.stepKeep, SX.guardIx, SX.evOp, SX.opd, SX.opds, SX.optOpd, SX.look, SX.putS, SX.gobs, SX.AllP, SX.leave, SX.lookC, SX.lookB, SX.lookT, SX.lookN, SX.findK, SX.evBuiltin, SX.ints, SX.foldI, SX.evBin, SX.evInt, SX.evStr, SX.evEq, SX.arith, SX.evLoad, SX.shapeUp, SX.evFieldAddr, SX.evField, SX.evIndexAddr, SX.evIndex, SX.evFill, SX.evBuild, SX.szs, SX.cellsV, SX.evNew, SX.evStore, SX.spliceL, SX.SV.cells, SX.evConv, SX.evSlice, SX.bnd, SX.evNil, SX.evUn, SX.evPick, SX.pickOpd, SX.popTo, SX.cnd, SX.env0, SX.TD.isAgg, SX.TD.isIface, SX.tails, SX.NotAgg, SX.evLookup, SX.evConvH, SX.evPtrEq, SX.isCells, SX.thaw, SX.frz, SX.fixB, SX.rootIx, SX.Froz, SX.frzStep, SX.fork, Go.Value.cells, Go.undef, cfg4, opqC, ho, d1]
  refine ⟨by (unfold SX.Ob; first | trivial | omega | ((try simp only [SX.inK]); (try simp [SX.den, SX.IsU8, SX.AllP, *]); (try omega))), ?_⟩
  intro a10 w10 hr10' _
  have hr10 := h9.unbase hr10'
  have hR10 := hR.keep hr10'.keeps (by simp [frameAt, mutB])
  have hA10 := hr10.all
  have lsO : w8.heap.size ≤ sO := by
    rcases hr10'.all.2.1.2.1 rfl with h | h
    · exact h
    · simp [frameAt, mutB] at h
  have lb8 := SO.rep_lt hrep
  have h10 := hr10.see [(b, false, .any), (sO, false, .cells [.v (.int .i64 o.frm), .v (.int .i64 o.id), .v (.int .i64 o.kind), .v (.bool o.fg)] 28)] ⟨⟨SO.rep_lt hA10.1.1, by simp, by simp; omega⟩, HpAll.one hA10.2.1.1⟩
  refine post_call 8 [.v v, .v (.int .i64 o.frm), .v (.int .i64 o.id)] h10 (by first | exact wanted_none rfl | exact wanted_zero (h10.env.same rfl rfl rfl rfl) rfl (by simp) | exact wanted_zero (h10.env.same rfl rfl rfl rfl) rfl (by simp [*])) rfl (callable 8 Try.func8) (ask_ok w10 v L o.frm o.id hR10.1 hS (by omega)) ?_
  rintro e11 w11 ⟨rfl, hb11⟩
  refine ⟨_, rfl, ?_⟩
  have h11 := h10.ret hb11 47 (.tu [.ag (mgC (askM L o.frm o.id)), .v (.int .i64 (askK L o.frm o.id))]) rfl _ (h10.all.below hb11) (by simp) rfl
  have hR11 := hR10.below hb11
  refine seg cfg4_ok mixed PanicFree.body 1000 [] [] h11.rebase (by first | trivial | exact HpRep.nil | assumption) (by kernel_rfl) fun sM hsM => ?_
  simp (maxSteps := 10000000) [SX.vc, SX.stop, SX.contS, SX.contB, SX.contW, SX.contR, SX.contD, SX.sxStep, SX.stepPure, SX.stepNew, SX.stepStore, SX.stepKeep, SX.guardIx, SX.evOp, SX.opd, SX.opds, SX.optOpd, SX.look, SX.putS, SX.gobs, SX.AllP, SX.leave, SX.lookC, SX.lookB, SX.lookT, SX.lookN, SX.findK, SX.evBuiltin, SX.ints, SX.foldI, SX.evBin, SX.evInt, SX.evStr, SX.evEq, SX.arith, SX.evLoad, SX.shapeUp, SX.evFieldAddr, SX.evField, SX.evIndexAddr, SX.evIndex, SX.evFill, SX.evBuild, SX.szs, SX.cellsV, SX.evNew, SX.evStore, SX.spliceL, SX.SV.cells, SX.evConv, SX.evSlice, SX.bnd, SX.evNil, SX.evUn, SX.evPick, SX.pickOpd, SX.popTo, SX.cnd, SX.env0, SX.TD.isAgg, SX.TD.isIface, SX.tails, SX.NotAgg, SX.evLookup, SX.evConvH, SX.evPtrEq, SX.isCells, SX.thaw, SX.frz, SX.fixB, SX.rootIx, SX.Froz, SX.frzStep, SX.fork, Go.Value.cells, Go.undef, cfg4, mgC]
  refine ⟨by (unfold SX.Ob; first | trivial | omega | ((try simp only [SX.inK]); (try simp [SX.den, SX.IsU8, SX.AllP, *]); (try omega))), ?_⟩
  intro a12 w12 hr12' _
  have hr12 := h11.unbase hr12'
  have hR12 := hR11.keep hr12'.keeps (by simp [frameAt, mutB])
  have hA12 := hr12.all
  have lsM : w11.heap.size ≤ sM := by
    rcases hr12'.all.2.2.1.2.1 rfl with h | h
    · exact h
    · simp [frameAt, mutB] at h
  have lO11 : sO < w11.heap.size := SO.rep_lt h11.all.2.1.1
  have lb11 : b < w11.heap.size := SO.rep_lt h11.all.1.1
  have h12 := hr12.see [(b, false, .any), (sO, false, .cells [.v (.int .i64 o.frm), .v (.int .i64 o.id), .v (.int .i64 o.kind), .v (.bool o.fg)] 28), (sM, false, .cells (mgC (askM L o.frm o.id)) 33)] ⟨⟨SO.rep_lt hA12.1.1, by simp, by simp; omega⟩, ⟨hA12.2.1.1, by simp, by simp; omega⟩, HpAll.one hA12.2.2.1.1⟩
  refine post_call 8 [.v v, .v (.int .i64 o.frm), .v (.int .i64 o.id)] h12 (by first | exact wanted_none rfl | exact wanted_zero (h12.env.same rfl rfl rfl rfl) rfl (by simp) | exact wanted_zero (h12.env.same rfl rfl rfl rfl) rfl (by simp [*])) rfl (callable 8 Try.func8) (ask_ok w12 v L o.frm o.id hR12.1 hS (by omega)) ?_
  rintro e13 w13 ⟨rfl, hb13⟩
  refine ⟨_, rfl, ?_⟩
  have h13 := h12.ret hb13 56 (.tu [.ag (mgC (askM L o.frm o.id)), .v (.int .i64 (askK L o.frm o.id))]) rfl _ (h12.all.below hb13) (by simp) rfl
  have hR13 := hR12.below hb13
  refine seg cfg4_ok mixed PanicFree.body 1000 [] [(62, false)] h13.rebase (by first | trivial | exact HpRep.nil | assumption) (by kernel_rfl) fun sN hsN => ?_
  simp (maxSteps := 10000000) [SX.vc, SX.stop, SX.contS, SX.contB, SX.contW, SX.contR, SX.contD, SX.sxStep, SX.stepPure, SX.stepNew, SX.stepStore, SX.stepKeep, SX.guardIx, SX.evOp, SX.opd, SX.opds, SX.optOpd, SX.look, SX.putS, SX.gobs, SX.AllP, SX.leave, SX.lookC, SX.lookB, SX.lookT, SX.lookN, SX.findK, SX.evBuiltin, SX.ints, SX.foldI, SX.evBin, SX.evInt, SX.evStr, SX.evEq, SX.arith, SX.evLoad, SX.shapeUp, SX.evFieldAddr, SX.evField, SX.evIndexAddr, SX.evIndex, SX.evFill, SX.evBuild, SX.szs, SX.cellsV, SX.evNew, SX.evStore, SX.spliceL, SX.SV.cells, SX.evConv, SX.evSlice, SX.bnd, SX.evNil, SX.evUn, SX.evPick, SX.pickOpd, SX.popTo, SX.cnd, SX.env0, SX.TD.isAgg, SX.TD.isIface, SX.tails, SX.NotAgg, SX.evLookup, SX.evConvH, SX.evPtrEq, SX.isCells, SX.thaw, SX.frz, SX.fixB, SX.rootIx, SX.Froz, SX.frzStep, SX.fork, Go.Value.cells, Go.undef, cfg4, mgC]
  refine ⟨by (unfold SX.Ob; first | trivial | omega | ((try simp only [SX.inK]); (try simp [SX.den, SX.IsU8, SX.AllP, *]); (try omega))), ?_⟩
  intro a14 w14 hr14' _
  have hr14 := h13.unbase hr14'
  have hR14 := hR13.keep hr14'.keeps (by simp [frameAt, mutB])
  obtain ⟨gm, gl⟩ := ask_good (f := o.frm) (i := o.id) hC hR14.2
  refine post_call 12 [.ag (mgC (askM L o.frm o.id)), .ag (mgC (askM L o.frm o.id))] hr14 (by first | exact wanted_none rfl | exact wanted_zero (hr14.env.same rfl rfl rfl rfl) rfl (by simp) | exact wanted_zero (hr14.env.same rfl rfl rfl rfl) rfl (by simp [*])) rfl (callable 12 Try.func12) (self_ok w14 _ gm gl) ?_
  rintro e15 w15 ⟨rfl, hb15⟩
  refine ⟨_, rfl, ?_⟩
  have h15 := hr14.ret hb15 65 (.v (.bool true)) rfl _ (hr14.all.below hb15) (by simp) rfl
  have hR15 := hR14.below hb15
  have hA15 := h15.all
  have lM : sM < w13.heap.size := SO.rep_lt h13.all.2.2.1.1
  have h15b := h15.see [(b, false, .any), (sO, false, .cells [.v (.int .i64 o.frm), .v (.int .i64 o.id), .v (.int .i64 o.kind), .v (.bool o.fg)] 28)] ⟨⟨SO.rep_lt hA15.1.1, by simp, by simp; omega⟩, HpAll.one hA15.2.1.1⟩
  refine seg cfg4_ok mixed PanicFree.body 1000 [false] [(62, false)] h15b.rebase (by first | trivial | exact HpRep.nil | assumption) (by kernel_rfl) fun s_ hs_ => ?_
  simp (maxSteps := 10000000) [SX.vc, SX.stop, SX.contS, SX.contB, SX.contW, SX.contR, SX.contD, SX.sxStep, SX.stepPure, SX.stepNew, SX.stepStore, SX.stepKeep, SX.guardIx, SX.evOp, SX.opd, SX.opds, SX.optOpd, SX.look, SX.putS, SX.gobs, SX.AllP, SX.leave, SX.lookC, SX.lookB, SX.lookT, SX.lookN, SX.findK, SX.evBuiltin, SX.ints, SX.foldI, SX.evBin, SX.evInt, SX.evStr, SX.evEq, SX.arith, SX.evLoad, SX.shapeUp, SX.evFieldAddr, SX.evField, SX.evIndexAddr, SX.evIndex, SX.evFill, SX.evBuild, SX.szs, SX.cellsV, SX.evNew, SX.evStore, SX.spliceL, SX.SV.cells, SX.evConv, SX.evSlice, SX.bnd, SX.evNil, SX.evUn, SX.evPick, SX.pickOpd, SX.popTo, SX.cnd, SX.env0, SX.TD.isAgg, SX.TD.isIface, SX.tails, SX.NotAgg, SX.evLookup, SX.evConvH, SX.evPtrEq, SX.isCells, SX.thaw, SX.frz, SX.fixB, SX.rootIx, SX.Froz, SX.frzStep, SX.fork, Go.Value.cells, Go.undef, cfg4]
  refine ⟨by (unfold SX.Ob; first | trivial | omega | ((try simp only [SX.inK]); (try simp [SX.den, SX.IsU8, SX.AllP, *]); (try omega))), ?_⟩
  intro a16 w16 hr16' _
  have hr16 := h15b.unbase hr16'
  have hR16 := hR15.keep hr16'.keeps (by simp [frameAt, mutB])
  refine post_call 9 [.v v, .v (.int .i64 o.frm), .v (.int .i64 o.id), .ag (mgC (mgK o.kind))] hr16 (by first | exact wanted_none rfl | exact wanted_zero (hr16.env.same rfl rfl rfl rfl) rfl (by simp) | exact wanted_zero (hr16.env.same rfl rfl rfl rfl) rfl (by simp [*])) rfl (callable 9 Try.func9) (done_ok w16 v L o.frm o.id (mgK o.kind) hR16.1 hS (by omega) (by omega)) ?_
  rintro e17 w17 ⟨v2, L2, rfl, hR2a, hDT, hND, hb17⟩
  refine ⟨_, rfl, ?_⟩
  have h17 := hr16.ret hb17 77 (.tu [.v v2, .v (.int .i64 (doneE L o.frm o.id))]) rfl _ (hr16.all.below hb17) (by simp) rfl
  have hR17 := hR16.below hb17
  by_cases hE : doneE L o.frm o.id = 0
  · have hd := hDT hE
    have hf0 : 0 ≤ o.frm := by
      refine Classical.byContradiction fun h => ?_
      have : doneE L o.frm o.id = 1 := if_pos (.inl (by omega))
      omega
    have hk0 := (doneE_new hf0).1 hE
    have hS2 := hd.small hS (by show o.id ≤ _; omega)
    have hl2 : L2.length ≤ 100 + (k + 1) := by have := hd.len; split at this <;> omega
    have hR2 : RdF (fun _ => True) w17 v2 L2 := ⟨hR2a.mono fun _ _ _ => trivial, done_good hd hR17.2⟩
    have hc2 : chkN L2 = 0 := if_pos hd.chk
    have hk2 : (askK L2 o.frm o.id == 0) = false := by
      obtain ⟨b', _, _, hK, _⟩ := ask_self hd hf0 hk0
      rw [hK o.id]
      split
      · decide
      · rw [if_pos rfl]; decide
    refine seg cfg4_ok mixed PanicFree.body 1000 [false] [] h17.rebase (by first | trivial | exact HpRep.nil | assumption) (by kernel_rfl) fun s_ hs_ => ?_
    simp (maxSteps := 10000000) [SX.vc, SX.stop, SX.contS, SX.contB, SX.contW, SX.contR, SX.contD, SX.sxStep, SX.stepPure, SX.stepNew, SX.stepStore, SX.stepKeep, SX.guardIx, SX.evOp, SX.opd, SX.opds, SX.optOpd, SX.look, SX.putS, SX.gobs, SX.AllP, SX.leave, SX.lookC, SX.lookB, SX.lookT, SX.lookN, SX.findK, SX.evBuiltin, SX.ints, SX.foldI, SX.evBin, SX.evInt, SX.evStr, SX.evEq, SX.arith, SX.evLoad, SX.shapeUp, SX.evFieldAddr, SX.evField, SX.evIndexAddr, SX.evIndex, SX.evFill, SX.evBuild, SX.szs, SX.cellsV, SX.evNew, SX.evStore, SX.spliceL, SX.SV.cells, SX.evConv, SX.evSlice, SX.bnd, SX.evNil, SX.evUn, SX.evPick, SX.pickOpd, SX.popTo, SX.cnd, SX.env0, SX.TD.isAgg, SX.TD.isIface, SX.tails, SX.NotAgg, SX.evLookup, SX.evConvH, SX.evPtrEq, SX.isCells, SX.thaw, SX.frz, SX.fixB, SX.rootIx, SX.Froz, SX.frzStep, SX.fork, Go.Value.cells, Go.undef, cfg4, hE]
    refine ⟨by (unfold SX.Ob; first | trivial | omega | ((try simp only [SX.inK]); (try simp [SX.den, SX.IsU8, SX.AllP, *]); (try omega))), ?_⟩
    intro a18 w18 hr18' _
    have hr18 := h17.unbase hr18'
    have hR18 := hR17.keep hr18'.keeps (by simp [frameAt, mutB])
    have hX18 := hR2.keep hr18'.keeps (by simp [frameAt, mutB])
    refine post_call 8 [.v v2, .v (.int .i64 o.frm), .v (.int .i64 o.id)] hr18 (by first | exact wanted_none rfl | exact wanted_zero (hr18.env.same rfl rfl rfl rfl) rfl (by simp) | exact wanted_zero (hr18.env.same rfl rfl rfl rfl) rfl (by simp [*])) rfl (callable 8 Try.func8) (ask_ok w18 v2 L2 o.frm o.id hX18.1 hS2 (by omega)) ?_
    rintro e19 w19 ⟨rfl, hb19⟩
    refine ⟨_, rfl, ?_⟩
    have h19 := hr18.ret hb19 105 (.tu [.ag (mgC (askM L2 o.frm o.id)), .v (.int .i64 (askK L2 o.frm o.id))]) rfl _ (hr18.all.below hb19) (by simp) rfl
    have hR19 := hR18.below hb19
    have hX19 := hX18.below hb19
    refine seg cfg4_ok mixed PanicFree.body 1000 [] [] h19.rebase (by first | trivial | exact HpRep.nil | assumption) (by kernel_rfl) fun s_ hs_ => ?_
    simp (maxSteps := 10000000) [SX.vc, SX.stop, SX.contS, SX.contB, SX.contW, SX.contR, SX.contD, SX.sxStep, SX.stepPure, SX.stepNew, SX.stepStore, SX.stepKeep, SX.guardIx, SX.evOp, SX.opd, SX.opds, SX.optOpd, SX.look, SX.putS, SX.gobs, SX.AllP, SX.leave, SX.lookC, SX.lookB, SX.lookT, SX.lookN, SX.findK, SX.evBuiltin, SX.ints, SX.foldI, SX.evBin, SX.evInt, SX.evStr, SX.evEq, SX.arith, SX.evLoad, SX.shapeUp, SX.evFieldAddr, SX.evField, SX.evIndexAddr, SX.evIndex, SX.evFill, SX.evBuild, SX.szs, SX.cellsV, SX.evNew, SX.evStore, SX.spliceL, SX.SV.cells, SX.evConv, SX.evSlice, SX.bnd, SX.evNil, SX.evUn, SX.evPick, SX.pickOpd, SX.popTo, SX.cnd, SX.env0, SX.TD.isAgg, SX.TD.isIface, SX.tails, SX.NotAgg, SX.evLookup, SX.evConvH, SX.evPtrEq, SX.isCells, SX.thaw, SX.frz, SX.fixB, SX.rootIx, SX.Froz, SX.frzStep, SX.fork, Go.Value.cells, Go.undef, cfg4, mgC]
    refine ⟨by (unfold SX.Ob; first | trivial | omega | ((try simp only [SX.inK]); (try simp [SX.den, SX.IsU8, SX.AllP, *]); (try omega))), ?_⟩
    intro a20 w20 hr20' _
    have hr20 := (h19.unbase hr20').see [] trivial
    have hR20 := hR19.keep hr20'.keeps (by simp [frameAt, mutB])
    have hX20 := hX19.keep hr20'.keeps (by simp [frameAt, mutB])
    refine post_call 13 [.v v2] hr20 (by first | exact wanted_none rfl | exact wanted_zero (hr20.env.same rfl rfl rfl rfl) rfl (by simp) | exact wanted_zero (hr20.env.same rfl rfl rfl rfl) rfl (by simp [*])) rfl (callable 13 Try.func13) (check_ok w20 v2 L2 hX20.1 hS2 (by omega)) ?_
    rintro e21 w21 ⟨rfl, hb21⟩
    refine ⟨_, rfl, ?_⟩
    have h21 := hr20.ret hb21 109 (.v (.int .i64 (chkN L2))) rfl _ (hr20.all.below hb21) (by simp) rfl
    have hR21 := hR20.below hb21
    have hX21 := hX20.below hb21
    refine seg cfg4_ok mixed PanicFree.body 1000 [] [(111, false), (115, false), (119, false)] h21.rebase (by first | trivial | exact HpRep.nil | assumption) (by kernel_rfl) fun s_ hs_ => ?_
    simp (maxSteps := 10000000) [SX.vc, SX.stop, SX.contS, SX.contB, SX.contW, SX.contR, SX.contD, SX.sxStep, SX.stepPure, SX.stepNew, SX.stepStore, SX.stepKeep, SX.guardIx, SX.evOp, SX.opd, SX.opds, SX.optOpd, SX.look, SX.putS, SX.gobs, SX.AllP, SX.leave, SX.lookC, SX.lookB, SX.lookT, SX.lookN, SX.findK, SX.evBuiltin, SX.ints, SX.foldI, SX.evBin, SX.evInt, SX.evStr, SX.evEq, SX.arith, SX.evLoad, SX.shapeUp, SX.evFieldAddr, SX.evField, SX.evIndexAddr, SX.evIndex, SX.evFill, SX.evBuild, SX.szs, SX.cellsV, SX.evNew, SX.evStore, SX.spliceL, SX.SV.cells, SX.evConv, SX.evSlice, SX.bnd, SX.evNil, SX.evUn, SX.evPick, SX.pickOpd, SX.popTo, SX.cnd, SX.env0, SX.TD.isAgg, SX.TD.isIface, SX.tails, SX.NotAgg, SX.evLookup, SX.evConvH, SX.evPtrEq, SX.isCells, SX.thaw, SX.frz, SX.fixB, SX.rootIx, SX.Froz, SX.frzStep, SX.fork, Go.Value.cells, Go.undef, cfg4, hc2, hk0, hk2]
    refine ⟨by (unfold SX.Ob; first | trivial | omega | ((try simp only [SX.inK]); (try simp [SX.den, SX.IsU8, SX.AllP, *]); (try omega))), ?_⟩
    intro a22 w22 hr22' _
    have hr22 := h21.unbase hr22'
    have hR22 := hR21.keep hr22'.keeps (by simp [frameAt, mutB])
    have hX22 := hX21.keep hr22'.keeps (by simp [frameAt, mutB])
    refine post_call 14 [.v v2, .v v] hr22 (by first | exact wanted_none rfl | exact wanted_zero (hr22.env.same rfl rfl rfl rfl) rfl (by simp) | exact wanted_zero (hr22.env.same rfl rfl rfl rfl) rfl (by simp [*])) rfl (callable 14 Try.func14) (same_ok w22 v2 v L2 L hX22 hR22 (by omega) (by omega) (fun s hs => Nat.le_trans ((chkN_pw.1 hd.chk).1 s hs).1.2.2.1 (by omega)) (fun s hs => Nat.le_trans ((chkN_pw.1 hC).1 s hs).1.2.2.1 (by omega))) ?_
    rintro e23 w23 ⟨b', rfl, hyes, hb23⟩
    refine ⟨_, rfl, ?_⟩
    have h23 := hr22.ret hb23 122 (.v (.bool b')) rfl _ (hr22.all.below hb23) (by simp) rfl
    have hb' : b' = false := by
      rcases hbb : b' with _ | _
      · rfl
      · exact absurd (hyes hbb) (done_other hd hf0 hk0)
    subst hb'
    have hX23 := hX22.below hb23
    refine seg cfg4_ok mixed PanicFree.body 1000 [false] [(111, false), (115, false), (119, false)] h23.rebase (by first | trivial | exact HpRep.nil | assumption) (by kernel_rfl) fun s_ hs_ => ?_
    simp (maxSteps := 10000000) [SX.vc, SX.stop, SX.contS, SX.contB, SX.contW, SX.contR, SX.contD, SX.sxStep, SX.stepPure, SX.stepNew, SX.stepStore, SX.stepKeep, SX.guardIx, SX.evOp, SX.opd, SX.opds, SX.optOpd, SX.look, SX.putS, SX.gobs, SX.AllP, SX.leave, SX.lookC, SX.lookB, SX.lookT, SX.lookN, SX.findK, SX.evBuiltin, SX.ints, SX.foldI, SX.evBin, SX.evInt, SX.evStr, SX.evEq, SX.arith, SX.evLoad, SX.shapeUp, SX.evFieldAddr, SX.evField, SX.evIndexAddr, SX.evIndex, SX.evFill, SX.evBuild, SX.szs, SX.cellsV, SX.evNew, SX.evStore, SX.spliceL, SX.SV.cells, SX.evConv, SX.evSlice, SX.bnd, SX.evNil, SX.evUn, SX.evPick, SX.pickOpd, SX.popTo, SX.cnd, SX.env0, SX.TD.isAgg, SX.TD.isIface, SX.tails, SX.NotAgg, SX.evLookup, SX.evConvH, SX.evPtrEq, SX.isCells, SX.thaw, SX.frz, SX.fixB, SX.rootIx, SX.Froz, SX.frzStep, SX.fork, Go.Value.cells, Go.undef, cfg4]
    refine ⟨by (unfold SX.Ob; first | trivial | omega | ((try simp only [SX.inK]); (try simp [SX.den, SX.IsU8, SX.AllP, *]); (try omega))), ?_⟩
    intro a24 w24 hr24' _
    have hr24 := h23.unbase hr24'
    exact post_rnd (ops.length - (k + 1)) (by omega) ⟨k + 1, L2, v2, rfl, hlt, hd.chk, hS2, hl2, hX23.keep hr24'.keeps (by simp [frameAt, mutB]), hr24.re (by simp [envTo, SX.look, den]) trivial rfl rfl⟩
  · obtain ⟨rfl, rfl⟩ := hND hE
    have hE2 : (doneE L o.frm o.id != 0) = true := by simpa using hE
    by_cases hk0 : askK L o.frm o.id = 0
    · have hf0 : ¬ 0 ≤ o.frm := fun h => hE ((doneE_new h).2 hk0)
      refine seg cfg4_ok mixed PanicFree.body 1000 [true, false] [(85, false), (88, true), (93, false)] h17.rebase (by first | trivial | exact HpRep.nil | assumption) (by kernel_rfl) fun s_ hs_ => ?_
      simp (maxSteps := 10000000) [SX.vc, SX.stop, SX.contS, SX.contB, SX.contW, SX.contR, SX.contD, SX.sxStep, SX.stepPure, SX.stepNew, SX.stepStore, SX.stepKeep, SX.guardIx, SX.evOp, SX.opd, SX.opds, SX.optOpd, SX.look, SX.putS, SX.gobs, SX.AllP, SX.leave, SX.lookC, SX.lookB, SX.lookT, SX.lookN, SX.findK, SX.evBuiltin, SX.ints, SX.foldI, SX.evBin, SX.evInt, SX.evStr, SX.evEq, SX.arith, SX.evLoad, SX.shapeUp, SX.evFieldAddr, SX.evField, SX.evIndexAddr, SX.evIndex, SX.evFill, SX.evBuild, SX.szs, SX.cellsV, SX.evNew, SX.evStore, SX.spliceL, SX.SV.cells, SX.evConv, SX.evSlice, SX.bnd, SX.evNil, SX.evUn, SX.evPick, SX.pickOpd, SX.popTo, SX.cnd, SX.env0, SX.TD.isAgg, SX.TD.isIface, SX.tails, SX.NotAgg, SX.evLookup, SX.evConvH, SX.evPtrEq, SX.isCells, SX.thaw, SX.frz, SX.fixB, SX.rootIx, SX.Froz, SX.frzStep, SX.fork, Go.Value.cells, Go.undef, cfg4, hE2, hk0, hf0]
      refine ⟨by (unfold SX.Ob; first | trivial | omega | ((try simp only [SX.inK]); (try simp [SX.den, SX.IsU8, SX.AllP, *]); (try omega))), ?_⟩
      intro a18 w18 hr18' _
      have hr18 := h17.unbase hr18'
      exact post_rnd (ops.length - (k + 1)) (by omega) ⟨k + 1, L, v, rfl, hlt, hC, hS, by omega, hR17.keep hr18'.keeps (by simp [frameAt, mutB]), hr18.re (by simp [envTo, SX.look, den]) trivial rfl rfl⟩
    · have hk0' : (askK L o.frm o.id == 0) = false := by simpa using hk0
      refine seg cfg4_ok mixed PanicFree.body 1000 [true, false] [(85, false), (88, false), (93, false)] h17.rebase (by first | trivial | exact HpRep.nil | assumption) (by kernel_rfl) fun s_ hs_ => ?_
      simp (maxSteps := 10000000) [SX.vc, SX.stop, SX.contS, SX.contB, SX.contW, SX.contR, SX.contD, SX.sxStep, SX.stepPure, SX.stepNew, SX.stepStore, SX.stepKeep, SX.guardIx, SX.evOp, SX.opd, SX.opds, SX.optOpd, SX.look, SX.putS, SX.gobs, SX.AllP, SX.leave, SX.lookC, SX.lookB, SX.lookT, SX.lookN, SX.findK, SX.evBuiltin, SX.ints, SX.foldI, SX.evBin, SX.evInt, SX.evStr, SX.evEq, SX.arith, SX.evLoad, SX.shapeUp, SX.evFieldAddr, SX.evField, SX.evIndexAddr, SX.evIndex, SX.evFill, SX.evBuild, SX.szs, SX.cellsV, SX.evNew, SX.evStore, SX.spliceL, SX.SV.cells, SX.evConv, SX.evSlice, SX.bnd, SX.evNil, SX.evUn, SX.evPick, SX.pickOpd, SX.popTo, SX.cnd, SX.env0, SX.TD.isAgg, SX.TD.isIface, SX.tails, SX.NotAgg, SX.evLookup, SX.evConvH, SX.evPtrEq, SX.isCells, SX.thaw, SX.frz, SX.fixB, SX.rootIx, SX.Froz, SX.frzStep, SX.fork, Go.Value.cells, Go.undef, cfg4, hE2, hk0']
      refine ⟨by (unfold SX.Ob; first | trivial | omega | ((try simp only [SX.inK]); (try simp [SX.den, SX.IsU8, SX.AllP, *]); (try omega))), ?_⟩
      intro a18 w18 hr18' _
      have hr18 := h17.unbase hr18'
      exact post_rnd (ops.length - (k + 1)) (by omega) ⟨k + 1, L, v, rfl, hlt, hC, hS, by omega, hR17.keep hr18'.keeps (by simp [frameAt, mutB]), hr18.re (by simp [envTo, SX.look, den]) trivial rfl rfl⟩
end Go.Proofs
