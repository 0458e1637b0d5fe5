/- Live: Victim; the chapter's example. -/
import Derived.Test.YtnmjdelnllchdaaDI
namespace Go.Proofs
set_option linter.unusedVariables false
set_option linter.unusedSimpArgs false
set_option linter.unusedSectionVars false
open Go Go.SX Go.RowKit

def VictimR (w : World) (d : Dev) (L : List Ext) (K : List Int) (e : Ending) (w' : World) : Prop := ∃ R : List Int, e = .returned (den (.tu [.v (.int .i64 (nth (0 : Int) R 0)), .v (.bool (decide (R ≠ [])))])) ∧ StabP (fun x => cntE L x.toNat) (vicL d L K) R ∧ Below w.heap.size w w'

set_option maxRecDepth 100000 in
set_option maxHeartbeats 16000000 in
/-- Victim. -/
theorem Victim_ok {P P' P'' : Nat → Prop} (w : World) (v vm v2 : Value) (d : Dev) (L : List Ext) (K : List Int) (hL : RdZ P w v d.Z) (hn : d.Z.length ≤ 1000000000000000) (hl : LenOK d.Z) (hM : RdE P' w vm L) (hm : L.length ≤ 1000) (hK : RdI P'' w v2 K) (hnK : K.length ≤ 1000000000000000) (hS : SortC d.Z.length) : Calls Try.prog 13 (denL [.ag (devC d v), .v vm, .v v2]).toArray w (VictimR w d L K) := by
  obtain ⟨ad, cp, rfl⟩ := hL.slice
  refine enter (F := frame0 w) Try.func13 rfl [.ag (devC d (.slice ad d.Z.length cp)), .v vm, .v v2] [] (by simp [Try.f13]) trivial (keeps0 w) fun a hr => ?_
  refine seg cfg13_ok mixed PanicFree.body 1000 [] [] hr (by first | trivial | exact HpRep.nil | assumption) (by kernel_rfl) fun s_ hs_ => ?_
  simp (maxSteps := 10000000) [SX.vc, SX.stop, SX.contS, SX.contB, SX.contW, SX.contR, SX.contD, SX.sxStep, SX.stepPure, SX.stepNew, SX.stepStore, SX.stepKeep, SX.guardIx, SX.evOp, SX.opd, SX.opds, SX.optOpd, SX.look, SX.putS, SX.gobs, SX.AllP, SX.leave, SX.lookC, SX.lookB, SX.lookT, SX.lookN, SX.findK, SX.evBuiltin, SX.ints, SX.foldI, SX.evBin, SX.evInt, SX.evStr, SX.evEq, SX.arith, SX.evLoad, SX.shapeUp, SX.evFieldAddr, SX.evField, SX.evIndexAddr, SX.evIndex, SX.evFill, SX.evBuild, SX.szs, SX.cellsV, SX.evNew, SX.evStore, SX.spliceL, SX.SV.cells, SX.evConv, SX.evSlice, SX.bnd, SX.evNil, SX.evUn, SX.evPick, SX.pickOpd, SX.popTo, SX.cnd, SX.env0, SX.TD.isAgg, SX.TD.isIface, SX.tails, SX.NotAgg, SX.evLookup, SX.evConvH, SX.evPtrEq, SX.isCells, SX.thaw, SX.frz, SX.fixB, SX.rootIx, SX.Froz, SX.frzStep, SX.fork, Go.Value.cells, Go.undef, cfg13, Try.f13, devC]
  refine ⟨by (unfold SX.Ob; first | trivial | omega | ((try simp only [SX.inK]); (try simp [SX.den, SX.IsU8, SX.AllP, *]); (try omega))), ?_⟩
  intro a1 w1 hr1 _
  refine post_call 22 [.ag [.v (.int .i64 d.cap), .v (.int .i64 d.op), .v (.int .i64 d.ac), .v (.slice ad d.Z.length cp)], .v vm, .v v2] hr1 (by first | exact wanted_none rfl | exact wanted_zero (hr1.env.same rfl rfl rfl rfl) rfl (by simp) | exact wanted_zero (hr1.env.same rfl rfl rfl rfl) rfl (by simp [*])) rfl (callable 22 Try.func22) (victims_ok w1 _ vm v2 d L K (hL.below hr1.keeps.toBelow) hn hl (hM.below hr1.keeps.toBelow) hm (hK.below hr1.keeps.toBelow) hnK hS) ?_
  rintro e2 w2 ⟨vr, R, rfl, hR, hSt, hb2⟩
  refine ⟨_, rfl, ?_⟩
  have h2 := hr1.ret hb2 12 (.v vr) rfl _ (hr1.all.below hb2) (by simp) rfl
  have hRl : (R.length : Int) ≤ 1000000000000000 := by
    have h1 := hSt.1
    have : (vicL d L K).length ≤ d.Z.length := by
      unfold vicL
      split
      · exact vicK_len _ _ _ _
      · simp
    omega
  rcases R with _ | ⟨r, R'⟩
  · obtain ⟨adr, cpr, rfl⟩ := hR.slice
    refine seg cfg13_ok mixed PanicFree.body 1000 [true] [] h2 (by first | trivial | exact HpRep.nil | assumption) (by kernel_rfl) fun s_ hs_ => ?_
    simp (maxSteps := 10000000) [SX.vc, SX.stop, SX.contS, SX.contB, SX.contW, SX.contR, SX.contD, SX.sxStep, SX.stepPure, SX.stepNew, SX.stepStore, SX.stepKeep, SX.guardIx, SX.evOp, SX.opd, SX.opds, SX.optOpd, SX.look, SX.putS, SX.gobs, SX.AllP, SX.leave, SX.lookC, SX.lookB, SX.lookT, SX.lookN, SX.findK, SX.evBuiltin, SX.ints, SX.foldI, SX.evBin, SX.evInt, SX.evStr, SX.evEq, SX.arith, SX.evLoad, SX.shapeUp, SX.evFieldAddr, SX.evField, SX.evIndexAddr, SX.evIndex, SX.evFill, SX.evBuild, SX.szs, SX.cellsV, SX.evNew, SX.evStore, SX.spliceL, SX.SV.cells, SX.evConv, SX.evSlice, SX.bnd, SX.evNil, SX.evUn, SX.evPick, SX.pickOpd, SX.popTo, SX.cnd, SX.env0, SX.TD.isAgg, SX.TD.isIface, SX.tails, SX.NotAgg, SX.evLookup, SX.evConvH, SX.evPtrEq, SX.isCells, SX.thaw, SX.frz, SX.fixB, SX.rootIx, SX.Froz, SX.frzStep, SX.fork, Go.Value.cells, Go.undef, cfg13]
    refine ⟨by (unfold SX.Ob; first | trivial | omega | ((try simp only [SX.inK]); (try simp [SX.den, SX.IsU8, SX.AllP, *]); (try omega))), ?_⟩
    intro a3 w3 hr3 _
    exact post_retn (end2 hr3 rfl rfl rfl ⟨[], by simp [nth, den, denL], hSt, hr3.keeps.toBelow⟩).1
  · obtain ⟨br, o0, capr, u, fz, hP, rfl, hrep⟩ := hR.opn (show 0 < (r :: R').length by simp)
    obtain ⟨n, hn2⟩ : ∃ n, (r :: R').length = n := ⟨_, rfl⟩
    have hnp : 0 < n := by rw [← hn2]; simp
    have hn0 : ((n : Int) == 0) = false := by simp; omega
    rw [hn2] at hrep hRl
    have h3 := (h2.top 12 (.sl 0 br o0 0 n capr 1) rfl (by simp [den, hn2])).see _ (HpAll.one hrep)
    refine seg cfg13_ok mixed PanicFree.body 1000 [false] [] h3 (by first | trivial | exact HpRep.nil | assumption) (by kernel_rfl) fun s_ hs_ => ?_
    simp (maxSteps := 10000000) [SX.vc, SX.stop, SX.contS, SX.contB, SX.contW, SX.contR, SX.contD, SX.sxStep, SX.stepPure, SX.stepNew, SX.stepStore, SX.stepKeep, SX.guardIx, SX.evOp, SX.opd, SX.opds, SX.optOpd, SX.look, SX.putS, SX.gobs, SX.AllP, SX.leave, SX.lookC, SX.lookB, SX.lookT, SX.lookN, SX.findK, SX.evBuiltin, SX.ints, SX.foldI, SX.evBin, SX.evInt, SX.evStr, SX.evEq, SX.arith, SX.evLoad, SX.shapeUp, SX.evFieldAddr, SX.evField, SX.evIndexAddr, SX.evIndex, SX.evFill, SX.evBuild, SX.szs, SX.cellsV, SX.evNew, SX.evStore, SX.spliceL, SX.SV.cells, SX.evConv, SX.evSlice, SX.bnd, SX.evNil, SX.evUn, SX.evPick, SX.pickOpd, SX.popTo, SX.cnd, SX.env0, SX.TD.isAgg, SX.TD.isIface, SX.tails, SX.NotAgg, SX.evLookup, SX.evConvH, SX.evPtrEq, SX.isCells, SX.thaw, SX.frz, SX.fixB, SX.rootIx, SX.Froz, SX.frzStep, SX.fork, Go.Value.cells, Go.undef, cfg13, hn0, hnp, intC, nth]
    refine ⟨by (unfold SX.Ob; first | trivial | omega | ((try simp only [SX.inK]); (try simp [SX.den, SX.IsU8, SX.AllP, *]); (try omega))), ?_⟩
    intro a4 w4 hr4 _
    exact post_retn (end2 hr4 rfl rfl rfl ⟨r :: R', by simp [nth, den, denL], hSt, hr4.keeps.toBelow⟩).1

set_option maxRecDepth 100000 in
set_option maxHeartbeats 16000000 in
/-- up. -/
theorem up_ok (w : World) : Calls Try.prog 8 #[] w (Ret w (.v (.bool true))) := by
  refine enter (F := frame0 w) Try.func8 rfl [] [] (by simp [Try.f8]) trivial (keeps0 w) fun a hr => ?_
  refine seg cfg8_ok mixed PanicFree.body 1000 [] [] hr (by first | trivial | exact HpRep.nil | assumption) (by kernel_rfl) fun sA hsA => ?_
  simp (maxSteps := 10000000) [SX.vc, SX.stop, SX.contS, SX.contB, SX.contW, SX.contR, SX.contD, SX.sxStep, SX.stepPure, SX.stepNew, SX.stepStore, SX.stepKeep, SX.guardIx, SX.evOp, SX.opd, SX.opds, SX.optOpd, SX.look, SX.putS, SX.gobs, SX.AllP, SX.leave, SX.lookC, SX.lookB, SX.lookT, SX.lookN, SX.findK, SX.evBuiltin, SX.ints, SX.foldI, SX.evBin, SX.evInt, SX.evStr, SX.evEq, SX.arith, SX.evLoad, SX.shapeUp, SX.evFieldAddr, SX.evField, SX.evIndexAddr, SX.evIndex, SX.evFill, SX.evBuild, SX.szs, SX.cellsV, SX.evNew, SX.evStore, SX.spliceL, SX.SV.cells, SX.evConv, SX.evSlice, SX.bnd, SX.evNil, SX.evUn, SX.evPick, SX.pickOpd, SX.popTo, SX.cnd, SX.env0, SX.TD.isAgg, SX.TD.isIface, SX.tails, SX.NotAgg, SX.evLookup, SX.evConvH, SX.evPtrEq, SX.isCells, SX.thaw, SX.frz, SX.fixB, SX.rootIx, SX.Froz, SX.frzStep, SX.fork, Go.Value.cells, Go.undef, cfg8, Try.f8]
  refine ⟨by (unfold SX.Ob; first | trivial | omega | ((try simp only [SX.inK]); (try simp [SX.den, SX.IsU8, SX.AllP, *]); (try omega))), ?_⟩
  intro a1 w1 hr1 _
  obtain ⟨d, hd⟩ : ∃ d : Dev, d = ⟨32, 1, 1, [⟨4, 0, some ⟨sA, 0, none⟩, 32, 32⟩]⟩ := ⟨_, rfl⟩
  have hdl : d.Z.length = 1 := by rw [hd]; rfl
  have hlo : LenOK d.Z := by
    rw [hd]
    intro z hz
    simp at hz
    subst hz
    simp
  have hD : DevOK d := by
    rw [hd]
    refine ⟨by simp, by simp [cntZ, openP, Opn], by simp [cntZ, actP, Act1, Opn], fun z hz => ?_⟩
    simp at hz
    subst hz
    simp [ZonOK]
  have hZ1 : RdZ (fun x => x = sA + 1) w1 (.slice (some ⟨sA + 1, 0, none⟩) 1 1) d.Z := by
    rw [hd]
    exact RdS.lit (enc := znC) (sz := 3) (d := zon0) (x := ⟨4, 0, some ⟨sA, 0, none⟩, 32, 32⟩) hr1.all.2.1.1 (by simp [znC, denL, den])
  have hE1 := RdS.lit (enc := extC) (sz := 5) (d := ext0) (x := ⟨0, 1, 0, 0, 0⟩) hr1.all.2.2.2.1.1 (by simp [extC])
  have hV1 := Victim_ok w1 _ _ (.slice none 0 0) d [⟨0, 1, 0, 0, 0⟩] [] hZ1 (by omega) hlo hE1 (by simp) (.inl ⟨rfl, _, _, rfl⟩ : RdI (fun _ => True) w1 _ []) (by simp) (hdl ▸ sortC1)
  have hv1 : vicL d [⟨0, 1, 0, 0, 0⟩] [] = [0] := by
    rw [vicL, if_pos ⟨hD, by decide⟩, hd]
    simp [vicK, List.range_succ, vicP, nth, cntE, whl]
  have hdv : denL [.ag [.v (.int .i64 32), .v (.int .i64 1), .v (.int .i64 1), .sl 1 (sA + 1) 0 0 1 1 3], .sl 3 (sA + 3) 0 0 1 1 5, .v (.slice none 0 0)] = denL [.ag (devC d (.slice (some ⟨sA + 1, 0, none⟩) 1 1)), .v (.slice (some ⟨sA + 3, 0, none⟩) 1 1), .v (.slice none 0 0)] := by
    rw [hd]
    simp [denL, den, devC]
  rw [← hdv] at hV1
  refine post_call 13 [.ag [.v (.int .i64 32), .v (.int .i64 1), .v (.int .i64 1), .sl 1 (sA + 1) 0 0 1 1 3], .sl 3 (sA + 3) 0 0 1 1 5, .v (.slice none 0 0)] hr1 (by first | exact wanted_none rfl | exact wanted_zero (hr1.env.same rfl rfl rfl rfl) rfl (by simp) | exact wanted_zero (hr1.env.same rfl rfl rfl rfl) rfl (by simp [*])) rfl (callable 13 Try.func13) (hV1) ?_
  rintro e2 w2 ⟨R, rfl, hSt, hb2⟩
  refine ⟨_, rfl, ?_⟩
  have h2 := hr1.ret hb2 14 (.tu [.v (.int .i64 (nth (0 : Int) R 0)), .v (.bool (decide (R ≠ [])))]) rfl _ (hr1.all.below hb2) (by simp) rfl
  rw [hv1] at hSt
  have hR1 : nth (0 : Int) R 0 = 0 ∧ decide (R ≠ []) = true := by
    have h1 := hSt.1
    rcases R with _ | ⟨r, R'⟩
    · simp at h1
    · have := hSt.mem.1 (show r ∈ r :: R' by simp)
      simp at this
      subst this
      simp [nth]
  obtain ⟨hR1a, hR1b⟩ := hR1
  refine seg cfg8_ok mixed PanicFree.body 1000 [] [] h2 (by first | trivial | exact HpRep.nil | assumption) (by kernel_rfl) fun sB hsB => ?_
  simp (maxSteps := 10000000) [SX.vc, SX.stop, SX.contS, SX.contB, SX.contW, SX.contR, SX.contD, SX.sxStep, SX.stepPure, SX.stepNew, SX.stepStore, SX.stepKeep, SX.guardIx, SX.evOp, SX.opd, SX.opds, SX.optOpd, SX.look, SX.putS, SX.gobs, SX.AllP, SX.leave, SX.lookC, SX.lookB, SX.lookT, SX.lookN, SX.findK, SX.evBuiltin, SX.ints, SX.foldI, SX.evBin, SX.evInt, SX.evStr, SX.evEq, SX.arith, SX.evLoad, SX.shapeUp, SX.evFieldAddr, SX.evField, SX.evIndexAddr, SX.evIndex, SX.evFill, SX.evBuild, SX.szs, SX.cellsV, SX.evNew, SX.evStore, SX.spliceL, SX.SV.cells, SX.evConv, SX.evSlice, SX.bnd, SX.evNil, SX.evUn, SX.evPick, SX.pickOpd, SX.popTo, SX.cnd, SX.env0, SX.TD.isAgg, SX.TD.isIface, SX.tails, SX.NotAgg, SX.evLookup, SX.evConvH, SX.evPtrEq, SX.isCells, SX.thaw, SX.frz, SX.fixB, SX.rootIx, SX.Froz, SX.frzStep, SX.fork, Go.Value.cells, Go.undef, cfg8, hR1a, hR1b]
  refine ⟨by (unfold SX.Ob; first | trivial | omega | ((try simp only [SX.inK]); (try simp [SX.den, SX.IsU8, SX.AllP, *]); (try omega))), ?_⟩
  intro a3 w3 hr3 _
  have hZ3 : RdZ (fun x => x = sA + 1) w3 (.slice (some ⟨sA + 1, 0, none⟩) 1 1) d.Z := by
    rw [hd]
    exact RdS.lit (enc := znC) (sz := 3) (d := zon0) (x := ⟨4, 0, some ⟨sA, 0, none⟩, 32, 32⟩) hr3.all.2.1.1 (by simp [znC, denL, den])
  have hE3 := RdS.lit (enc := extC) (sz := 5) (d := ext0) (x := ⟨0, 2, 0, 0, 0⟩) hr3.all.2.2.2.2.1.1 (by simp [extC])
  have hV3 := Victim_ok w3 _ _ (.slice none 0 0) d [⟨0, 2, 0, 0, 0⟩] [] hZ3 (by omega) hlo hE3 (by simp) (.inl ⟨rfl, _, _, rfl⟩ : RdI (fun _ => True) w3 _ []) (by simp) (hdl ▸ sortC1)
  have hv3 : vicL d [⟨0, 2, 0, 0, 0⟩] [] = [] := by
    rw [vicL, if_pos ⟨hD, by decide⟩, hd]
    simp [vicK, List.range_succ, vicP, nth, cntE, whl]
  have hdv3 : denL [.ag [.v (.int .i64 32), .v (.int .i64 1), .v (.int .i64 1), .sl 1 (sA + 1) 0 0 1 1 3], .sl 4 sB 0 0 1 1 5, .v (.slice none 0 0)] = denL [.ag (devC d (.slice (some ⟨sA + 1, 0, none⟩) 1 1)), .v (.slice (some ⟨sB, 0, none⟩) 1 1), .v (.slice none 0 0)] := by
    rw [hd]
    simp [denL, den, devC]
  rw [← hdv3] at hV3
  refine post_call 13 [.ag [.v (.int .i64 32), .v (.int .i64 1), .v (.int .i64 1), .sl 1 (sA + 1) 0 0 1 1 3], .sl 4 sB 0 0 1 1 5, .v (.slice none 0 0)] hr3 (by first | exact wanted_none rfl | exact wanted_zero (hr3.env.same rfl rfl rfl rfl) rfl (by simp) | exact wanted_zero (hr3.env.same rfl rfl rfl rfl) rfl (by simp [*])) rfl (callable 13 Try.func13) (hV3) ?_
  rintro e4 w4 ⟨R4, rfl, hSt4, hb4⟩
  refine ⟨_, rfl, ?_⟩
  have h4 := hr3.ret hb4 21 (.tu [.v (.int .i64 (nth (0 : Int) R4 0)), .v (.bool (decide (R4 ≠ [])))]) rfl _ (hr3.all.below hb4) (by simp) rfl
  rw [hv3] at hSt4
  have hR4 : decide (R4 ≠ []) = false := by
    have h1 := hSt4.1
    rcases R4 with _ | ⟨r, R'⟩
    · simp
    · simp at h1
  refine seg cfg8_ok mixed PanicFree.body 1000 [] [(26, true), (29, true)] h4 (by first | trivial | exact HpRep.nil | assumption) (by kernel_rfl) fun s_ hs_ => ?_
  simp (maxSteps := 10000000) [SX.vc, SX.stop, SX.contS, SX.contB, SX.contW, SX.contR, SX.contD, SX.sxStep, SX.stepPure, SX.stepNew, SX.stepStore, SX.stepKeep, SX.guardIx, SX.evOp, SX.opd, SX.opds, SX.optOpd, SX.look, SX.putS, SX.gobs, SX.AllP, SX.leave, SX.lookC, SX.lookB, SX.lookT, SX.lookN, SX.findK, SX.evBuiltin, SX.ints, SX.foldI, SX.evBin, SX.evInt, SX.evStr, SX.evEq, SX.arith, SX.evLoad, SX.shapeUp, SX.evFieldAddr, SX.evField, SX.evIndexAddr, SX.evIndex, SX.evFill, SX.evBuild, SX.szs, SX.cellsV, SX.evNew, SX.evStore, SX.spliceL, SX.SV.cells, SX.evConv, SX.evSlice, SX.bnd, SX.evNil, SX.evUn, SX.evPick, SX.pickOpd, SX.popTo, SX.cnd, SX.env0, SX.TD.isAgg, SX.TD.isIface, SX.tails, SX.NotAgg, SX.evLookup, SX.evConvH, SX.evPtrEq, SX.isCells, SX.thaw, SX.frz, SX.fixB, SX.rootIx, SX.Froz, SX.frzStep, SX.fork, Go.Value.cells, Go.undef, cfg8, hR1a, hR1b, hR4]
  refine ⟨by (unfold SX.Ob; first | trivial | omega | ((try simp only [SX.inK]); (try simp [SX.den, SX.IsU8, SX.AllP, *]); (try omega))), ?_⟩
  intro a5 w5 hr5 _
  exact post_retn (end1 hr5 rfl rfl ⟨rfl, hr5.keeps.toBelow⟩).1
end Go.Proofs
