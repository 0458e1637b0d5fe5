/- Extents: the chapter's example. -/
import Derived.Test.YtpbihcfmjnidbaaEJ
namespace Go.Proofs
set_option linter.unusedVariables false
set_option linter.unusedSimpArgs false
open Go Go.SX Go.RowKit

def xA : Ext := ⟨0, 8, 1, 2, 100⟩
def xB : Ext := ⟨3, 2, 2, 0, 0⟩
def xL : List Ext := [⟨0, 3, 1, 2, 100⟩, ⟨3, 2, 2, 0, 0⟩, ⟨5, 3, 1, 2, 180⟩]

theorem xL_chk : Chk xL := by decide
theorem xL_nogo : NoGo xL := by
  refine ⟨?_, ?_, trivial⟩ <;> decide
theorem xAB_may : AllMay [xA, xB] := by decide

theorem x_join {M : List Ext} (h : PutsTo [] [xA, xB] M) : joinE M = xL := by
  have hC : Chk [] := trivial
  obtain ⟨hM, _⟩ := h.good hC xAB_may
  obtain ⟨g1, g2, g3⟩ := join_good hM
  refine norm_uniq _ _ g1 xL_chk.good g2 xL_nogo fun b t => ?_
  rw [g3, h.has hC xAB_may]
  have e1 : ∀ (x : Ext) (l : List Ext), Has (x :: l) b t ↔ (In b x ∧ tell b x = t) ∨ Has l b t := fun x l => by
    rw [show x :: l = [x] ++ l from rfl, Has.append, Has.one]
  have e2 : [xA, xB].reverse = [xB, xA] := rfl
  rw [e2]
  simp only [xL, e1, Has.nil, or_false]
  by_cases h1 : hasB b xB = true
  · have h1' : (3 : Int) ≤ b ∧ b < 3 + 2 := of_decide_eq_true h1
    simp only [List.find?_cons, h1]
    simp only [In, tell, xB]
    constructor
    · intro h; exact .inr (.inl ⟨by omega, by rw [h]; rfl⟩)
    · rintro (⟨h, _⟩ | ⟨_, h⟩ | ⟨h, _⟩)
      · omega
      · rw [← h]; rfl
      · omega
  · have h1f : hasB b xB = false := by simpa using h1
    have h1' : ¬ ((3 : Int) ≤ b ∧ b < 3 + 2) := of_decide_eq_false h1f
    by_cases h2 : hasB b xA = true
    · have h2' : (0 : Int) ≤ b ∧ b < 0 + 8 := of_decide_eq_true h2
      simp only [List.find?_cons, h1f, h2]
      simp only [In, tell, xA]
      constructor
      · intro h
        rcases Int.lt_or_le b 3 with hb | hb
        · exact .inl ⟨by omega, by rw [h]; rfl⟩
        · exact .inr (.inr ⟨by omega, by rw [h]; simp; omega⟩)
      · rintro (⟨h, h3⟩ | ⟨h, _⟩ | ⟨h, h3⟩)
        · rw [← h3]; rfl
        · omega
        · rw [← h3]; simp; omega
    · have h2f : hasB b xA = false := by simpa using h2
      have h2' : ¬ ((0 : Int) ≤ b ∧ b < 0 + 8) := of_decide_eq_false h2f
      simp only [List.find?_cons, h1f, h2f, List.find?_nil]
      simp only [In, Has.nil, false_iff]
      rintro (⟨h, _⟩ | ⟨h, _⟩ | ⟨h, _⟩) <;> omega

theorem xL_at : atE xL 6 = some ⟨6, 1, 1, 2, 196⟩ := by decide

set_option maxRecDepth 100000 in
set_option maxHeartbeats 8000000 in
theorem live_ok (w : World) : Calls Try.prog 8 (denL []).toArray w (Ret w (.v (.bool true))) := by
  refine enter (F := frame0 w) Try.func8 rfl [] [] (by simp [Try.f8]) trivial (keeps0 w) fun a hr => ?_
  refine seg cfg8_ok mixed PanicFree.body 1000 [] [] hr (by first | trivial | exact HpRep.nil | assumption) (by kernel_rfl) fun s1 hs1 => ?_
  simp (maxSteps := 10000000) [SX.vc, SX.stop, SX.contS, SX.contB, SX.contW, SX.contR, SX.contD, SX.sxStep, SX.stepPure, SX.stepNew, SX.stepStore, SX.stepKeep, SX.guardIx, SX.evOp, SX.opd, SX.opds, SX.optOpd, SX.look, SX.putS, SX.gobs, SX.AllP, SX.leave, SX.lookC, SX.lookB, SX.lookT, SX.lookN, SX.findK, SX.evBuiltin, SX.ints, SX.foldI, SX.evBin, SX.evInt, SX.evStr, SX.evEq, SX.arith, SX.evLoad, SX.shapeUp, SX.evFieldAddr, SX.evField, SX.evIndexAddr, SX.evIndex, SX.evFill, SX.evBuild, SX.szs, SX.cellsV, SX.evNew, SX.evStore, SX.spliceL, SX.SV.cells, SX.evConv, SX.evSlice, SX.bnd, SX.evNil, SX.evUn, SX.evPick, SX.pickOpd, SX.popTo, SX.cnd, SX.env0, SX.TD.isAgg, SX.TD.isIface, SX.tails, SX.NotAgg, SX.evLookup, SX.evConvH, SX.evPtrEq, SX.isCells, SX.thaw, SX.frz, SX.fixB, SX.rootIx, SX.Froz, SX.frzStep, SX.fork, Go.Value.cells, Go.undef, cfg8, Try.f8]
  refine ⟨by (unfold SX.Ob; first | trivial | omega | ((try simp only [SX.inK]); (try simp [SX.den, SX.IsU8, SX.AllP, *]); (try omega))), ?_⟩
  intro a1 w1 hr1 _
  have hS : RdE (fun x => True) w1 (den (.sl 0 s1 0 0 2 2 5)) [xA, xB] := .inr ⟨by simp, s1, 0, 2, 24, (0, 0), trivial, rfl, rep_arr_sub hr1.all.1.1 (Nat.le_refl _) (fun j hj => by
    rcases j with _ | _ | j
    · rfl
    · rfl
    · simp at hj; omega), by simp⟩
  have hP : Calls Try.prog 12 (denL [.v (.slice none 0 0), .sl 0 s1 0 0 2 2 5]).toArray w1 (PutR w1 [] [xA, xB]) := Put_ok (P := fun _ => True) w1 (.slice none 0 0) _ [] [xA, xB] (.inl ⟨rfl, _, _, rfl⟩) hS (by simp)
  refine post_call 12 [.v (.slice none 0 0), .sl 0 s1 0 0 2 2 5] hr1 (wanted_none rfl) rfl (callable 12 Try.func12) hP ?_
  rintro e2 w2 (⟨_, _, M, hM, hMC, (⟨_, v2, rfl, hO2⟩ | ⟨hlen, _⟩), hb2⟩ | ⟨hno, _⟩)
  rotate_left
  · rw [x_join hM] at hlen
    exact absurd hlen (by decide)
  · exact absurd ⟨(trivial : Chk []), xAB_may⟩ hno
  rw [x_join hM] at hO2
  obtain ⟨b, N, cap, u, row, hPb, rfl, hc0, hc1, hc2, hrep, hrow⟩ := hO2.opn (k := 2) (by decide)
  have l1 := SO.rep_lt hr1.all.1.1
  have hrow2 : row 2 = [.v (.int .i64 5), .v (.int .i64 3), .v (.int .i64 1), .v (.int .i64 2), .v (.int .i64 180)] := by rw [hrow 2 (by decide)]; rfl
  refine ⟨_, rfl, ?_⟩
  have h2 := hr1.ret hb2 9 (.tu [.sl 1 b 0 0 3 cap 5, .v (.int .i64 0)]) (v := .tuple #[.slice (some ⟨b, 0, none⟩) 3 cap, .int .i64 0]) (by simp [den, denL]) _ ((hr1.all.below hb2).append (x := (b, false, .arr 0 N row 5 u (0, 0))) hrep (by simp) (by simp; omega)) (by simp) rfl
  refine seg cfg8_ok mixed PanicFree.body 1000 [] [] h2.rebase (by first | trivial | exact HpRep.nil | assumption) (by kernel_rfl) fun s_ hs_ => ?_
  simp (maxSteps := 10000000) [SX.vc, SX.stop, SX.contS, SX.contB, SX.contW, SX.contR, SX.contD, SX.sxStep, SX.stepPure, SX.stepNew, SX.stepStore, SX.stepKeep, SX.guardIx, SX.evOp, SX.opd, SX.opds, SX.optOpd, SX.look, SX.putS, SX.gobs, SX.AllP, SX.leave, SX.lookC, SX.lookB, SX.lookT, SX.lookN, SX.findK, SX.evBuiltin, SX.ints, SX.foldI, SX.evBin, SX.evInt, SX.evStr, SX.evEq, SX.arith, SX.evLoad, SX.shapeUp, SX.evFieldAddr, SX.evField, SX.evIndexAddr, SX.evIndex, SX.evFill, SX.evBuild, SX.szs, SX.cellsV, SX.evNew, SX.evStore, SX.spliceL, SX.SV.cells, SX.evConv, SX.evSlice, SX.bnd, SX.evNil, SX.evUn, SX.evPick, SX.pickOpd, SX.popTo, SX.cnd, SX.env0, SX.TD.isAgg, SX.TD.isIface, SX.tails, SX.NotAgg, SX.evLookup, SX.evConvH, SX.evPtrEq, SX.isCells, SX.thaw, SX.frz, SX.fixB, SX.rootIx, SX.Froz, SX.frzStep, SX.fork, Go.Value.cells, Go.undef, cfg8]
  refine ⟨by (unfold SX.Ob; first | trivial | omega | ((try simp only [SX.inK]); (try simp [SX.den, SX.IsU8, SX.AllP, *]); (try omega))), ?_⟩
  intro a3 w3 hr3' _
  have hr3 := h2.unbase hr3'
  have hO3 : RdE (fun x => w1.heap.size ≤ x) w3 (den (.sl 1 b 0 0 3 cap 5)) xL := (hO2.keep hr3'.keeps (by simp [frameAt, mutB]; omega)).rd
  have hA3 : Calls Try.prog 19 (denL [.sl 1 b 0 0 3 cap 5, .v (.int .i64 6)]).toArray w3 (AtR w3 (atE xL 6)) := At_ok w3 _ xL 6 hO3 (by decide)
  rw [xL_at] at hA3
  refine post_call 19 [.sl 1 b 0 0 3 cap 5, .v (.int .i64 6)] hr3 (by first | exact wanted_none rfl | exact wanted_zero (hr3.env.same rfl rfl rfl rfl) rfl (by simp)) rfl (callable 19 Try.func19) (hA3) ?_
  rintro e4 w4 ⟨rfl, hb4⟩
  refine ⟨_, rfl, ?_⟩
  have h4 := hr3.ret hb4 14 (.tu [.ag (extC ⟨6, 1, 1, 2, 196⟩), .v (.bool true)]) rfl _ (hr3.all.below hb4) (by simp) rfl
  have hN2 : 2 < N := by
    have : (3 : Nat) ≤ cap := hc1
    omega
  refine seg cfg8_ok mixed PanicFree.body 1000 [] [(19, true), (24, true), (31, true), (34, true)] h4 (by first | trivial | exact HpRep.nil | assumption) (by kernel_rfl) fun s_ hs_ => ?_
  simp (maxSteps := 10000000) [SX.vc, SX.stop, SX.contS, SX.contB, SX.contW, SX.contR, SX.contD, SX.sxStep, SX.stepPure, SX.stepNew, SX.stepStore, SX.stepKeep, SX.guardIx, SX.evOp, SX.opd, SX.opds, SX.optOpd, SX.look, SX.putS, SX.gobs, SX.AllP, SX.leave, SX.lookC, SX.lookB, SX.lookT, SX.lookN, SX.findK, SX.evBuiltin, SX.ints, SX.foldI, SX.evBin, SX.evInt, SX.evStr, SX.evEq, SX.arith, SX.evLoad, SX.shapeUp, SX.evFieldAddr, SX.evField, SX.evIndexAddr, SX.evIndex, SX.evFill, SX.evBuild, SX.szs, SX.cellsV, SX.evNew, SX.evStore, SX.spliceL, SX.SV.cells, SX.evConv, SX.evSlice, SX.bnd, SX.evNil, SX.evUn, SX.evPick, SX.pickOpd, SX.popTo, SX.cnd, SX.env0, SX.TD.isAgg, SX.TD.isIface, SX.tails, SX.NotAgg, SX.evLookup, SX.evConvH, SX.evPtrEq, SX.isCells, SX.thaw, SX.frz, SX.fixB, SX.rootIx, SX.Froz, SX.frzStep, SX.fork, Go.Value.cells, Go.undef, cfg8, extC, hrow2]
  refine ⟨by (unfold SX.Ob; first | trivial | omega | ((try simp only [SX.inK]); (try simp [SX.den, SX.IsU8, SX.AllP, *]); (try omega))), ?_⟩
  intro a5 w5 hr5 _
  refine post_eqP (C := cfg8) cfg8_ok (ok := fun t => t == 24) ok24 hr5 rfl rfl rfl (by kernel_rfl) (b := true) ((eqExt ⟨5, 3, 1, 2, 180⟩ ⟨5, 3, 1, 2, 180⟩).trans rfl) (by first | exact wanted_none rfl | exact wanted_zero (hr5.env.same rfl rfl rfl rfl) rfl (by simp)) rfl (by simp) rfl fun a_ hr6 => ?_
  simp only [SX.eqR] at hr6
  refine seg cfg8_ok mixed PanicFree.body 1000 [] [(19, true), (24, true), (31, true), (34, true)] hr6 (by first | trivial | exact HpRep.nil | assumption) (by kernel_rfl) fun s_ hs_ => ?_
  simp (maxSteps := 10000000) [SX.vc, SX.stop, SX.contS, SX.contB, SX.contW, SX.contR, SX.contD, SX.sxStep, SX.stepPure, SX.stepNew, SX.stepStore, SX.stepKeep, SX.guardIx, SX.evOp, SX.opd, SX.opds, SX.optOpd, SX.look, SX.putS, SX.gobs, SX.AllP, SX.leave, SX.lookC, SX.lookB, SX.lookT, SX.lookN, SX.findK, SX.evBuiltin, SX.ints, SX.foldI, SX.evBin, SX.evInt, SX.evStr, SX.evEq, SX.arith, SX.evLoad, SX.shapeUp, SX.evFieldAddr, SX.evField, SX.evIndexAddr, SX.evIndex, SX.evFill, SX.evBuild, SX.szs, SX.cellsV, SX.evNew, SX.evStore, SX.spliceL, SX.SV.cells, SX.evConv, SX.evSlice, SX.bnd, SX.evNil, SX.evUn, SX.evPick, SX.pickOpd, SX.popTo, SX.cnd, SX.env0, SX.TD.isAgg, SX.TD.isIface, SX.tails, SX.NotAgg, SX.evLookup, SX.evConvH, SX.evPtrEq, SX.isCells, SX.thaw, SX.frz, SX.fixB, SX.rootIx, SX.Froz, SX.frzStep, SX.fork, Go.Value.cells, Go.undef, cfg8]
  refine ⟨by (unfold SX.Ob; first | trivial | omega | ((try simp only [SX.inK]); (try simp [SX.den, SX.IsU8, SX.AllP, *]); (try omega))), ?_⟩
  intro a7 w7 hr7 _
  refine post_eqP (C := cfg8) cfg8_ok (ok := fun t => t == 24) ok24 hr7 rfl rfl rfl (by kernel_rfl) (b := true) ((eqExt ⟨6, 1, 1, 2, 196⟩ ⟨6, 1, 1, 2, 196⟩).trans rfl) (by first | exact wanted_none rfl | exact wanted_zero (hr7.env.same rfl rfl rfl rfl) rfl (by simp)) rfl (by simp) rfl fun a_ hr8 => ?_
  simp only [SX.eqR] at hr8
  refine seg cfg8_ok mixed PanicFree.body 1000 [] [(19, true), (24, true), (31, true), (34, true)] hr8 (by first | trivial | exact HpRep.nil | assumption) (by kernel_rfl) fun s_ hs_ => ?_
  simp (maxSteps := 10000000) [SX.vc, SX.stop, SX.contS, SX.contB, SX.contW, SX.contR, SX.contD, SX.sxStep, SX.stepPure, SX.stepNew, SX.stepStore, SX.stepKeep, SX.guardIx, SX.evOp, SX.opd, SX.opds, SX.optOpd, SX.look, SX.putS, SX.gobs, SX.AllP, SX.leave, SX.lookC, SX.lookB, SX.lookT, SX.lookN, SX.findK, SX.evBuiltin, SX.ints, SX.foldI, SX.evBin, SX.evInt, SX.evStr, SX.evEq, SX.arith, SX.evLoad, SX.shapeUp, SX.evFieldAddr, SX.evField, SX.evIndexAddr, SX.evIndex, SX.evFill, SX.evBuild, SX.szs, SX.cellsV, SX.evNew, SX.evStore, SX.spliceL, SX.SV.cells, SX.evConv, SX.evSlice, SX.bnd, SX.evNil, SX.evUn, SX.evPick, SX.pickOpd, SX.popTo, SX.cnd, SX.env0, SX.TD.isAgg, SX.TD.isIface, SX.tails, SX.NotAgg, SX.evLookup, SX.evConvH, SX.evPtrEq, SX.isCells, SX.thaw, SX.frz, SX.fixB, SX.rootIx, SX.Froz, SX.frzStep, SX.fork, Go.Value.cells, Go.undef, cfg8]
  refine ⟨by (unfold SX.Ob; first | trivial | omega | ((try simp only [SX.inK]); (try simp [SX.den, SX.IsU8, SX.AllP, *]); (try omega))), ?_⟩
  intro a9 w9 hr9 _
  exact post_retn (end1 hr9 rfl rfl ⟨rfl, hr9.keeps.toBelow⟩).1
end Go.Proofs
