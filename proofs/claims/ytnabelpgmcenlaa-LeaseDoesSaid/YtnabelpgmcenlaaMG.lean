/- Leases: LeaseDoes walked. -/
import Derived.Test.YtnabelpgmcenlaaMF
import Derived.Test.YtnabelpgmcenlaaLU
import Derived.Test.YtnabelpgmcenlaaLX
namespace Go.Proofs
set_option linter.unusedVariables false
set_option linter.unusedSimpArgs false
open Go Go.SX Go.RowKit

theorem _root_.Go.SX.HpAll.mut1 {F : Fr} {w : World} {x : Nat} {b : Bool} {o : SO} {H : Hp} (h : HpAll F w ((x, b, o) :: H)) (hb : F.B ≤ x) : HpAll F w ((x, true, o) :: H) := ⟨⟨h.1.1, fun _ => .inl hb, h.1.2.2⟩, h.2⟩
theorem does_xlen (t : Tab) (o : Opr) : (bodyX t o).length ≤ t.L.length + 1 := by
  unfold bodyX
  split
  · unfold tickO
    split
    · have := List.length_filter_le (fun x : Lse => decide (x.u ≤ o.a)) t.L
      omega
    · simp
  · repeat' split
    all_goals simp
theorem ofL_len (t : Tab) (h : Int) : (ofL t h).length ≤ t.L.length := by
  unfold ofL
  rw [List.length_map]
  exact someL_len _ _
theorem body_bounds {t : Tab} {o : Opr} (hE : bodyE t o = 0) (ha : o.d = 0 → o.a ≤ 1152921504606846976) (hnow : t.now ≤ 1152921504606846976) : (bodyT t o).last ≤ t.last + 1 ∧ (bodyT t o).now ≤ 1152921504606846976 := by
  unfold bodyE at hE
  unfold bodyT
  split
  · rename_i h
    rw [if_pos h] at hE
    unfold tickE at hE
    split at hE
    · rename_i hk
      rw [tickT, if_pos hk]
      exact ⟨by show t.last ≤ t.last + 1; omega, ha h⟩
    · omega
  · rename_i h
    rw [if_neg h] at hE
    split
    · rename_i h1
      rw [if_pos h1] at hE
      rw [grantT, if_pos hE]
      exact ⟨Int.le_refl _, hnow⟩
    · rename_i h1
      rw [if_neg h1] at hE
      split
      · rename_i h2
        rw [if_pos h2] at hE
        rw [renT, if_pos hE]
        exact ⟨by show t.last ≤ t.last + 1; omega, hnow⟩
      · rename_i h2
        rw [if_neg h2] at hE
        split
        · rename_i h3
          rw [if_pos h3] at hE
          rw [revT, if_pos hE]
          exact ⟨by show t.last ≤ t.last + 1; omega, hnow⟩
        · exact ⟨by omega, hnow⟩

def DoLoop (w : World) (G : List Opr) (vg vk : Value) (s3 : Nat) (m : Nat) (a : Act) (w' : World) : Prop :=
  ∃ (k : Nat) (T : Tab) (ad : Option Addr) (cp : Nat), m = G.length - k ∧ k ≤ G.length ∧ T.L.length ≤ 100 + k ∧ T.last ≤ 1152921504606846976 + k ∧ T.now ≤ 1152921504606846976 ∧ RdL (fun x => x ≠ s3) w' (.slice ad T.L.length cp) T.L ∧
    RepX (frame0 w) ⟨[(30, 0, .v (.int .i64 k)), (29, 0, .v (.int .i64 G.length)), (28, 0, .v vg), (3, 0, .ptr 0 s3 0), (7, 0, .v (.bool true)), (6, 0, .v (.bool false)), (2, 0, .v vk)], [(s3, true, .cells (tabS T (.slice ad T.L.length cp)) 24)], 0, 0, 113, [], [], []⟩ a w'

set_option maxRecDepth 100000 in
set_option maxHeartbeats 64000000 in
/-- LeaseDoes. -/
theorem does_ok (w : World) (v vg vk : Value) (t : Tab) (G : List Opr) (K : List Int) (hL : RdL (fun x => x < w.heap.size) w v t.L) (hG : RdO (fun x => x < w.heap.size) w vg G) (hK : RdI (fun x => x < w.heap.size) w vk K) (hnG : G.length ≤ 1000000000000000) (hnK : K.length ≤ 1000000000000000) : Calls Try.prog 8 (denL [.ag (tabC t v), .v vg, .v vk]).toArray w (fun ev w' => ev = .returned (.bool true) ∧ Below w.heap.size w w') := by
  obtain ⟨ad, cp, rfl⟩ := hG.slice
  obtain ⟨adk, cpk, rfl⟩ := hK.slice
  obtain ⟨adl, cpl, rfl⟩ := hL.slice
  refine enter (F := frame0 w) Try.func8 rfl [.ag (tabC t (.slice adl t.L.length cpl)), .v (.slice ad G.length cp), .v (.slice adk K.length cpk)] [] (by simp [Try.f8]) trivial (keeps0 w) fun a hr => ?_
  refine seg cfg8_ok mixed PanicFree.body 1000 [] [] hr (by first | trivial | exact HpRep.nil | assumption) (by kernel_rfl) fun s3 hs3 => ?_
  simp (maxSteps := 10000000) [SX.vc, SX.stop, SX.contS, SX.contB, SX.contW, SX.contR, SX.contD, SX.sxStep, SX.stepPure, SX.stepNew, SX.stepStore, SX.stepKeep, SX.guardIx, SX.evOp, SX.opd, SX.opds, SX.optOpd, SX.look, SX.putS, SX.gobs, SX.AllP, SX.leave, SX.lookC, SX.lookB, SX.lookT, SX.lookN, SX.findK, SX.evBuiltin, SX.ints, SX.foldI, SX.evBin, SX.evInt, SX.evStr, SX.evEq, SX.arith, SX.evLoad, SX.shapeUp, SX.evFieldAddr, SX.evField, SX.evIndexAddr, SX.evIndex, SX.evFill, SX.evBuild, SX.szs, SX.cellsV, SX.evNew, SX.evStore, SX.spliceL, SX.SV.cells, SX.evConv, SX.evSlice, SX.bnd, SX.evNil, SX.evUn, SX.evPick, SX.pickOpd, SX.popTo, SX.cnd, SX.env0, SX.TD.isAgg, SX.TD.isIface, SX.tails, SX.NotAgg, SX.evLookup, SX.evConvH, SX.evPtrEq, SX.isCells, SX.thaw, SX.frz, SX.fixB, SX.rootIx, SX.Froz, SX.frzStep, SX.fork, Go.Value.cells, Go.undef, cfg8, Try.f8, tabC]
  refine ⟨by (unfold SX.Ob; first | trivial | omega | ((try simp only [SX.inK]); (try simp [SX.den, SX.IsU8, SX.AllP, *]); (try omega))), ?_⟩
  intro a1 w1 hr1 _
  have hL1 : RdL (fun x => x ≠ s3) w1 (.slice adl t.L.length cpl) t.L := (hL.below hr1.keeps.toBelow).mono fun x _ h => by omega
  have hs3 : w.heap.size ≤ s3 := by
    rcases hr1.all.1.2.1 rfl with h | h
    · exact h
    · cases h
  refine post_call 9 [] hr1 (by first | exact wanted_none rfl | exact wanted_zero (hr1.env.same rfl rfl rfl rfl) rfl (by simp) | exact wanted_zero (hr1.env.same rfl rfl rfl rfl) rfl (by simp [*])) rfl (callable 9 Try.func9) (live_ok w1) ?_
  rintro e2' w2 ⟨rfl, hb2⟩
  refine ⟨_, rfl, ?_⟩
  have h2 := hr1.ret hb2 17 (.v (.bool true)) rfl _ (hr1.all.below hb2) (by simp) rfl
  have hL2 := hL1.below hb2
  refine seg cfg8_ok mixed PanicFree.body 1000 [] [] h2 (by first | trivial | exact HpRep.nil | assumption) (by kernel_rfl) fun s_ hs_ => ?_
  simp (maxSteps := 10000000) [SX.vc, SX.stop, SX.contS, SX.contB, SX.contW, SX.contR, SX.contD, SX.sxStep, SX.stepPure, SX.stepNew, SX.stepStore, SX.stepKeep, SX.guardIx, SX.evOp, SX.opd, SX.opds, SX.optOpd, SX.look, SX.putS, SX.gobs, SX.AllP, SX.leave, SX.lookC, SX.lookB, SX.lookT, SX.lookN, SX.findK, SX.evBuiltin, SX.ints, SX.foldI, SX.evBin, SX.evInt, SX.evStr, SX.evEq, SX.arith, SX.evLoad, SX.shapeUp, SX.evFieldAddr, SX.evField, SX.evIndexAddr, SX.evIndex, SX.evFill, SX.evBuild, SX.szs, SX.cellsV, SX.evNew, SX.evStore, SX.spliceL, SX.SV.cells, SX.evConv, SX.evSlice, SX.bnd, SX.evNil, SX.evUn, SX.evPick, SX.pickOpd, SX.popTo, SX.cnd, SX.env0, SX.TD.isAgg, SX.TD.isIface, SX.tails, SX.NotAgg, SX.evLookup, SX.evConvH, SX.evPtrEq, SX.isCells, SX.thaw, SX.frz, SX.fixB, SX.rootIx, SX.Froz, SX.frzStep, SX.fork, Go.Value.cells, Go.undef, cfg8]
  refine ⟨by (unfold SX.Ob; first | trivial | omega | ((try simp only [SX.inK]); (try simp [SX.den, SX.IsU8, SX.AllP, *]); (try omega))), ?_⟩
  intro a3 w3 hr3 _
  have hL3 := (hL.below hr3.keeps.toBelow).mono (P' := fun x => x ≠ s3) fun x _ h => by omega
  refine post_call 10 [.ag [.v (.int .i64 t.last), .v (.int .i64 t.now), .v (.slice adl t.L.length cpl)], .v (.slice ad G.length cp)] hr3 (by first | exact wanted_none rfl | exact wanted_zero (hr3.env.same rfl rfl rfl rfl) rfl (by simp) | exact wanted_zero (hr3.env.same rfl rfl rfl rfl) rfl (by simp [*])) rfl (callable 10 Try.func10) (few_ok w3 _ t ad G.length cp hL3) ?_
  rintro e4 w4 ⟨rfl, hb4⟩
  refine ⟨_, rfl, ?_⟩
  have h4 := hr3.ret hb4 20 (.v (.bool (decide (FewP t G.length)))) rfl _ (hr3.all.below hb4) (by simp) rfl
  by_cases hF : FewP t G.length
  rotate_left
  · refine seg cfg8_ok mixed PanicFree.body 1000 [true] [(22, true)] h4 (by first | trivial | exact HpRep.nil | assumption) (by kernel_rfl) fun s_ hs_ => ?_
    simp (maxSteps := 10000000) [SX.vc, SX.stop, SX.contS, SX.contB, SX.contW, SX.contR, SX.contD, SX.sxStep, SX.stepPure, SX.stepNew, SX.stepStore, SX.stepKeep, SX.guardIx, SX.evOp, SX.opd, SX.opds, SX.optOpd, SX.look, SX.putS, SX.gobs, SX.AllP, SX.leave, SX.lookC, SX.lookB, SX.lookT, SX.lookN, SX.findK, SX.evBuiltin, SX.ints, SX.foldI, SX.evBin, SX.evInt, SX.evStr, SX.evEq, SX.arith, SX.evLoad, SX.shapeUp, SX.evFieldAddr, SX.evField, SX.evIndexAddr, SX.evIndex, SX.evFill, SX.evBuild, SX.szs, SX.cellsV, SX.evNew, SX.evStore, SX.spliceL, SX.SV.cells, SX.evConv, SX.evSlice, SX.bnd, SX.evNil, SX.evUn, SX.evPick, SX.pickOpd, SX.popTo, SX.cnd, SX.env0, SX.TD.isAgg, SX.TD.isIface, SX.tails, SX.NotAgg, SX.evLookup, SX.evConvH, SX.evPtrEq, SX.isCells, SX.thaw, SX.frz, SX.fixB, SX.rootIx, SX.Froz, SX.frzStep, SX.fork, Go.Value.cells, Go.undef, cfg8, hF]
    refine ⟨by (unfold SX.Ob; first | trivial | omega | ((try simp only [SX.inK]); (try simp [SX.den, SX.IsU8, SX.AllP, *]); (try omega))), ?_⟩
    intro a5 w5 hr5 _
    exact post_retn (end1 hr5 rfl rfl ⟨rfl, hr5.keeps.toBelow⟩).1
  have hG100 : G.length ≤ 100 := hF.2.1
  have hT100 : t.L.length ≤ 100 := hF.1
  have hnear := hF.2.2
  by_cases hK1 : 100 < K.length
  · refine seg cfg8_ok mixed PanicFree.body 1000 [true] [(22, false)] h4 (by first | trivial | exact HpRep.nil | assumption) (by kernel_rfl) fun s_ hs_ => ?_
    simp (maxSteps := 10000000) [SX.vc, SX.stop, SX.contS, SX.contB, SX.contW, SX.contR, SX.contD, SX.sxStep, SX.stepPure, SX.stepNew, SX.stepStore, SX.stepKeep, SX.guardIx, SX.evOp, SX.opd, SX.opds, SX.optOpd, SX.look, SX.putS, SX.gobs, SX.AllP, SX.leave, SX.lookC, SX.lookB, SX.lookT, SX.lookN, SX.findK, SX.evBuiltin, SX.ints, SX.foldI, SX.evBin, SX.evInt, SX.evStr, SX.evEq, SX.arith, SX.evLoad, SX.shapeUp, SX.evFieldAddr, SX.evField, SX.evIndexAddr, SX.evIndex, SX.evFill, SX.evBuild, SX.szs, SX.cellsV, SX.evNew, SX.evStore, SX.spliceL, SX.SV.cells, SX.evConv, SX.evSlice, SX.bnd, SX.evNil, SX.evUn, SX.evPick, SX.pickOpd, SX.popTo, SX.cnd, SX.env0, SX.TD.isAgg, SX.TD.isIface, SX.tails, SX.NotAgg, SX.evLookup, SX.evConvH, SX.evPtrEq, SX.isCells, SX.thaw, SX.frz, SX.fixB, SX.rootIx, SX.Froz, SX.frzStep, SX.fork, Go.Value.cells, Go.undef, cfg8, hF, hK1]
    refine ⟨by (unfold SX.Ob; first | trivial | omega | ((try simp only [SX.inK]); (try simp [SX.den, SX.IsU8, SX.AllP, *]); (try omega))), ?_⟩
    intro a5 w5 hr5 _
    exact post_retn (end1 hr5 rfl rfl ⟨rfl, hr5.keeps.toBelow⟩).1
  refine seg cfg8_ok mixed PanicFree.body 1000 [false] [(22, false)] h4 (by first | trivial | exact HpRep.nil | assumption) (by kernel_rfl) fun s_ hs_ => ?_
  simp (maxSteps := 10000000) [SX.vc, SX.stop, SX.contS, SX.contB, SX.contW, SX.contR, SX.contD, SX.sxStep, SX.stepPure, SX.stepNew, SX.stepStore, SX.stepKeep, SX.guardIx, SX.evOp, SX.opd, SX.opds, SX.optOpd, SX.look, SX.putS, SX.gobs, SX.AllP, SX.leave, SX.lookC, SX.lookB, SX.lookT, SX.lookN, SX.findK, SX.evBuiltin, SX.ints, SX.foldI, SX.evBin, SX.evInt, SX.evStr, SX.evEq, SX.arith, SX.evLoad, SX.shapeUp, SX.evFieldAddr, SX.evField, SX.evIndexAddr, SX.evIndex, SX.evFill, SX.evBuild, SX.szs, SX.cellsV, SX.evNew, SX.evStore, SX.spliceL, SX.SV.cells, SX.evConv, SX.evSlice, SX.bnd, SX.evNil, SX.evUn, SX.evPick, SX.pickOpd, SX.popTo, SX.cnd, SX.env0, SX.TD.isAgg, SX.TD.isIface, SX.tails, SX.NotAgg, SX.evLookup, SX.evConvH, SX.evPtrEq, SX.isCells, SX.thaw, SX.frz, SX.fixB, SX.rootIx, SX.Froz, SX.frzStep, SX.fork, Go.Value.cells, Go.undef, cfg8, hF, hK1]
  refine ⟨by (unfold SX.Ob; first | trivial | omega | ((try simp only [SX.inK]); (try simp [SX.den, SX.IsU8, SX.AllP, *]); (try omega))), ?_⟩
  intro a5 w5 hr5 _
  refine post_loop (DoLoop w G (.slice ad G.length cp) (.slice adk K.length cpk) s3) G.length ⟨0, t, adl, cpl, rfl, by omega, by omega, by have := hnear.1; omega, by have := hnear.2; omega, (hL.below hr5.keeps.toBelow).mono (P' := fun x => x ≠ s3) fun x _ h => by omega, hr5.re (by simp [envTo, SX.look, den]) hr5.all rfl rfl⟩ ?_
  clear hr hr1 h2 hr3 h4 hL1 hL2 hL3
  rintro m a6 w6 ⟨k, T, adT, cpT, rfl, hk, hTl, hTe, hTn, hT6, hr6⟩
  have hA6 := hr6.all.1
  have hs36 := SO.rep_lt hA6.1
  by_cases hlt : k < G.length
  rotate_left
  · obtain rfl : k = G.length := by omega
    refine seg cfg8_ok mixed PanicFree.body 1000 [false] [] hr6 (by first | trivial | exact HpRep.nil | assumption) (by kernel_rfl) fun s_ hs_ => ?_
    simp (maxSteps := 10000000) [SX.vc, SX.stop, SX.contS, SX.contB, SX.contW, SX.contR, SX.contD, SX.sxStep, SX.stepPure, SX.stepNew, SX.stepStore, SX.stepKeep, SX.guardIx, SX.evOp, SX.opd, SX.opds, SX.optOpd, SX.look, SX.putS, SX.gobs, SX.AllP, SX.leave, SX.lookC, SX.lookB, SX.lookT, SX.lookN, SX.findK, SX.evBuiltin, SX.ints, SX.foldI, SX.evBin, SX.evInt, SX.evStr, SX.evEq, SX.arith, SX.evLoad, SX.shapeUp, SX.evFieldAddr, SX.evField, SX.evIndexAddr, SX.evIndex, SX.evFill, SX.evBuild, SX.szs, SX.cellsV, SX.evNew, SX.evStore, SX.spliceL, SX.SV.cells, SX.evConv, SX.evSlice, SX.bnd, SX.evNil, SX.evUn, SX.evPick, SX.pickOpd, SX.popTo, SX.cnd, SX.env0, SX.TD.isAgg, SX.TD.isIface, SX.tails, SX.NotAgg, SX.evLookup, SX.evConvH, SX.evPtrEq, SX.isCells, SX.thaw, SX.frz, SX.fixB, SX.rootIx, SX.Froz, SX.frzStep, SX.fork, Go.Value.cells, Go.undef, cfg8]
    refine ⟨by (unfold SX.Ob; first | trivial | omega | ((try simp only [SX.inK]); (try simp [SX.den, SX.IsU8, SX.AllP, *]); (try omega))), ?_⟩
    intro a7 w7 hr7 _
    exact post_retn (end1 hr7 rfl rfl ⟨rfl, hr7.keeps.toBelow⟩).1
  obtain ⟨b, o0, cap, u, fz, hP, hv, hrep⟩ := hG.opn hlt
  cases hv
  have hbw := SO.rep_lt hrep
  have hrep6 := SO.rep_same hrep (hr6.keeps.toBelow.block _ hbw)
  obtain ⟨o, ho⟩ : ∃ o, nth opr0 G k = o := ⟨_, rfl⟩
  have h7 := (hr6.top 28 (.sl 1 b o0 0 G.length cp 5) rfl (by simp [den])).see [(s3, true, .cells (tabS T (.slice adT T.L.length cpT)) 24), (b, false, .arr o0 G.length (fun j => oprC (nth opr0 G j)) 5 u fz)] ⟨⟨hA6.1, hA6.2.1, by simp; omega⟩, HpAll.one hrep6⟩
  have blen := body_len T o
  have bxl := does_xlen T o
  have bof := ofL_len T o.b
  by_cases hbig : o.d = 0 ∧ 1152921504606846976 < o.a
  · obtain ⟨hd0, hbg⟩ := hbig
    refine seg cfg8_ok mixed PanicFree.body 1000 [true, true] [(37, true)] h7 (by first | trivial | exact HpRep.nil | assumption) (by kernel_rfl) fun s_ hs_ => ?_
    simp (maxSteps := 10000000) [SX.vc, SX.stop, SX.contS, SX.contB, SX.contW, SX.contR, SX.contD, SX.sxStep, SX.stepPure, SX.stepNew, SX.stepStore, SX.stepKeep, SX.guardIx, SX.evOp, SX.opd, SX.opds, SX.optOpd, SX.look, SX.putS, SX.gobs, SX.AllP, SX.leave, SX.lookC, SX.lookB, SX.lookT, SX.lookN, SX.findK, SX.evBuiltin, SX.ints, SX.foldI, SX.evBin, SX.evInt, SX.evStr, SX.evEq, SX.arith, SX.evLoad, SX.shapeUp, SX.evFieldAddr, SX.evField, SX.evIndexAddr, SX.evIndex, SX.evFill, SX.evBuild, SX.szs, SX.cellsV, SX.evNew, SX.evStore, SX.spliceL, SX.SV.cells, SX.evConv, SX.evSlice, SX.bnd, SX.evNil, SX.evUn, SX.evPick, SX.pickOpd, SX.popTo, SX.cnd, SX.env0, SX.TD.isAgg, SX.TD.isIface, SX.tails, SX.NotAgg, SX.evLookup, SX.evConvH, SX.evPtrEq, SX.isCells, SX.thaw, SX.frz, SX.fixB, SX.rootIx, SX.Froz, SX.frzStep, SX.fork, Go.Value.cells, Go.undef, cfg8, oprC, ho, hd0, hbg]
    refine ⟨by (unfold SX.Ob; first | trivial | omega | ((try simp only [SX.inK]); (try simp [SX.den, SX.IsU8, SX.AllP, *]); (try omega))), ?_⟩
    intro a8 w8 hr8 _
    exact post_retn (end1 hr8 rfl rfl ⟨rfl, hr8.keeps.toBelow⟩).1
  have ha : o.d = 0 → o.a ≤ 1152921504606846976 := fun h => by
    rcases Int.lt_or_le 1152921504606846976 o.a with h1 | h1
    · exact absurd ⟨h, h1⟩ hbig
    · exact h1
  clear hbig
  by_cases hd0 : o.d = 0
  · have hd0b : (o.d == 0) = true := by simp [hd0]
    have hbg : ¬ 1152921504606846976 < o.a := by have := ha hd0; omega
    clear hd0
    refine seg cfg8_ok mixed PanicFree.body 1000 [true, false] [(37, true)] h7.rebase (by first | trivial | exact HpRep.nil | assumption) (by kernel_rfl) fun s7 hs7 => ?_
    simp (maxSteps := 10000000) [SX.vc, SX.stop, SX.contS, SX.contB, SX.contW, SX.contR, SX.contD, SX.sxStep, SX.stepPure, SX.stepNew, SX.stepStore, SX.stepKeep, SX.guardIx, SX.evOp, SX.opd, SX.opds, SX.optOpd, SX.look, SX.putS, SX.gobs, SX.AllP, SX.leave, SX.lookC, SX.lookB, SX.lookT, SX.lookN, SX.findK, SX.evBuiltin, SX.ints, SX.foldI, SX.evBin, SX.evInt, SX.evStr, SX.evEq, SX.arith, SX.evLoad, SX.shapeUp, SX.evFieldAddr, SX.evField, SX.evIndexAddr, SX.evIndex, SX.evFill, SX.evBuild, SX.szs, SX.cellsV, SX.evNew, SX.evStore, SX.spliceL, SX.SV.cells, SX.evConv, SX.evSlice, SX.bnd, SX.evNil, SX.evUn, SX.evPick, SX.pickOpd, SX.popTo, SX.cnd, SX.env0, SX.TD.isAgg, SX.TD.isIface, SX.tails, SX.NotAgg, SX.evLookup, SX.evConvH, SX.evPtrEq, SX.isCells, SX.thaw, SX.frz, SX.fixB, SX.rootIx, SX.Froz, SX.frzStep, SX.fork, Go.Value.cells, Go.undef, cfg8, oprC, tabS, ho, hd0b, hbg]
    refine ⟨by (unfold SX.Ob; first | trivial | omega | ((try simp only [SX.inK]); (try simp [SX.den, SX.IsU8, SX.AllP, *]); (try omega))), ?_⟩
    intro a8 w8 hr8' _
    have hr8a := h7.unbase hr8'
    have hT8 := hT6.keep hr8'.keeps (by simp [frameAt, mutB])
    have hr8 := hr8a.see _ (HpAll.imm1 hr8a.all)
    simp only [List.map_cons, List.map_nil] at hr8
    refine post_call 22 [.ag [.v (.int .i64 T.last), .v (.int .i64 T.now), .v (.slice adT T.L.length cpT)]] hr8 (by first | exact wanted_none rfl | exact wanted_zero (hr8.env.same rfl rfl rfl rfl) rfl (by simp) | exact wanted_zero (hr8.env.same rfl rfl rfl rfl) rfl (by simp [*])) rfl (callable 22 Try.func22) (copy_ok w8 _ T hT8 (by omega)) ?_
    rintro e9 w9 ⟨v9, rfl, hC9, hb9⟩
    refine ⟨_, rfl, ?_⟩
    have h9 := hr8.ret hb9 44 (.ag (tabC T v9)) rfl _ (hr8.all.below hb9) (by simp) rfl
    have k8 := SO.rep_lt hr8.all.1.1
    have hT9 := hT8.below hb9
    have hC9' := hC9.rd.mono (P' := fun x => x ≠ s3) fun x _ h => by omega
    obtain ⟨adC, nC, cpC, rfl⟩ : ∃ ad n cp, v9 = Value.slice ad n cp := by obtain ⟨x1, x2, h1⟩ := hC9.slice; exact ⟨_, _, _, h1⟩
    refine seg cfg8_ok mixed PanicFree.body 1000 [] [] h9.rebase (by first | trivial | exact HpRep.nil | assumption) (by kernel_rfl) fun s_ hs_ => ?_
    simp (maxSteps := 10000000) [SX.vc, SX.stop, SX.contS, SX.contB, SX.contW, SX.contR, SX.contD, SX.sxStep, SX.stepPure, SX.stepNew, SX.stepStore, SX.stepKeep, SX.guardIx, SX.evOp, SX.opd, SX.opds, SX.optOpd, SX.look, SX.putS, SX.gobs, SX.AllP, SX.leave, SX.lookC, SX.lookB, SX.lookT, SX.lookN, SX.findK, SX.evBuiltin, SX.ints, SX.foldI, SX.evBin, SX.evInt, SX.evStr, SX.evEq, SX.arith, SX.evLoad, SX.shapeUp, SX.evFieldAddr, SX.evField, SX.evIndexAddr, SX.evIndex, SX.evFill, SX.evBuild, SX.szs, SX.cellsV, SX.evNew, SX.evStore, SX.spliceL, SX.SV.cells, SX.evConv, SX.evSlice, SX.bnd, SX.evNil, SX.evUn, SX.evPick, SX.pickOpd, SX.popTo, SX.cnd, SX.env0, SX.TD.isAgg, SX.TD.isIface, SX.tails, SX.NotAgg, SX.evLookup, SX.evConvH, SX.evPtrEq, SX.isCells, SX.thaw, SX.frz, SX.fixB, SX.rootIx, SX.Froz, SX.frzStep, SX.fork, Go.Value.cells, Go.undef, cfg8, tabC, tabS]
    refine ⟨by (unfold SX.Ob; first | trivial | omega | ((try simp only [SX.inK]); (try simp [SX.den, SX.IsU8, SX.AllP, *]); (try omega))), ?_⟩
    intro a10 w10 hr10' _
    have hr10a := h9.unbase hr10'
    have hT10 := hT9.keep hr10'.keeps (by simp [frameAt, mutB])
    have hC10 := hC9'.keep hr10'.keeps (by simp [frameAt, mutB])
    have hr10 := hr10a.see _ (HpAll.imm1 hr10a.all)
    simp only [List.map_cons, List.map_nil] at hr10
    refine post_call 19 [.ag [.v (.int .i64 T.last), .v (.int .i64 T.now), .v (.slice adT T.L.length cpT)], .ag [.v (.int .i64 o.d), .v (.int .i64 o.a), .v (.int .i64 o.b), .v (.int .i64 o.c), .v (.int .i64 o.x)]] hr10 (by first | exact wanted_none rfl | exact wanted_zero (hr10.env.same rfl rfl rfl rfl) rfl (by simp) | exact wanted_zero (hr10.env.same rfl rfl rfl rfl) rfl (by simp [*])) rfl (callable 19 Try.func19) (body_ok w10 _ T o hT10 (by omega) (by omega) (by omega)) ?_
    rintro e11 w11 ⟨vU, vX, rfl, hU11, hX11, hb11⟩
    refine ⟨_, rfl, ?_⟩
    have h11 := hr10.ret hb11 48 (.tu [.ag (tabC (bodyT T o) vU), .v vX, .v (.int .i64 (bodyE T o))]) rfl _ (hr10.all.below hb11) (by simp) rfl
    have k10 := SO.rep_lt hr10.all.1.1
    have hT11 := hT10.below hb11
    have hC11 := hC10.below hb11
    have hU11' := hU11.mono (P' := fun x => x ≠ s3) fun x _ h => by
      rcases h with h | h
      · exact h
      · omega
    have hX11' := hX11.mono (P' := fun x => x ≠ s3) fun x _ h => by omega
    obtain ⟨adU, cpU, rfl⟩ := hU11.slice
    obtain ⟨adX, nX, cpX, rfl⟩ : ∃ ad n cp, vX = Value.slice ad n cp := by obtain ⟨x1, x2, h1⟩ := hX11.slice; exact ⟨_, _, _, h1⟩
    refine seg cfg8_ok mixed PanicFree.body 1000 [] [] h11.rebase (by first | trivial | exact HpRep.nil | assumption) (by kernel_rfl) fun s_ hs_ => ?_
    simp (maxSteps := 10000000) [SX.vc, SX.stop, SX.contS, SX.contB, SX.contW, SX.contR, SX.contD, SX.sxStep, SX.stepPure, SX.stepNew, SX.stepStore, SX.stepKeep, SX.guardIx, SX.evOp, SX.opd, SX.opds, SX.optOpd, SX.look, SX.putS, SX.gobs, SX.AllP, SX.leave, SX.lookC, SX.lookB, SX.lookT, SX.lookN, SX.findK, SX.evBuiltin, SX.ints, SX.foldI, SX.evBin, SX.evInt, SX.evStr, SX.evEq, SX.arith, SX.evLoad, SX.shapeUp, SX.evFieldAddr, SX.evField, SX.evIndexAddr, SX.evIndex, SX.evFill, SX.evBuild, SX.szs, SX.cellsV, SX.evNew, SX.evStore, SX.spliceL, SX.SV.cells, SX.evConv, SX.evSlice, SX.bnd, SX.evNil, SX.evUn, SX.evPick, SX.pickOpd, SX.popTo, SX.cnd, SX.env0, SX.TD.isAgg, SX.TD.isIface, SX.tails, SX.NotAgg, SX.evLookup, SX.evConvH, SX.evPtrEq, SX.isCells, SX.thaw, SX.frz, SX.fixB, SX.rootIx, SX.Froz, SX.frzStep, SX.fork, Go.Value.cells, Go.undef, cfg8, tabC, tabS]
    refine ⟨by (unfold SX.Ob; first | trivial | omega | ((try simp only [SX.inK]); (try simp [SX.den, SX.IsU8, SX.AllP, *]); (try omega))), ?_⟩
    intro a12 w12 hr12' _
    have hr12a := h11.unbase hr12'
    have hT12 := hT11.keep hr12'.keeps (by simp [frameAt, mutB])
    have hC12 := hC11.keep hr12'.keeps (by simp [frameAt, mutB])
    have hU12 := hU11'.keep hr12'.keeps (by simp [frameAt, mutB])
    have hX12 := hX11'.keep hr12'.keeps (by simp [frameAt, mutB])
    have hr12 := hr12a.see _ (HpAll.imm1 hr12a.all)
    simp only [List.map_cons, List.map_nil] at hr12
    refine post_call 23 [.ag [.v (.int .i64 T.last), .v (.int .i64 T.now), .v (.slice adT T.L.length cpT)], .ag [.v (.int .i64 o.d), .v (.int .i64 o.a), .v (.int .i64 o.b), .v (.int .i64 o.c), .v (.int .i64 o.x)]] hr12 (by first | exact wanted_none rfl | exact wanted_zero (hr12.env.same rfl rfl rfl rfl) rfl (by simp) | exact wanted_zero (hr12.env.same rfl rfl rfl rfl) rfl (by simp [*])) rfl (callable 23 Try.func23) (model_ok w12 _ T o hT12 (by omega) (by omega) (by omega)) ?_
    rintro e13 w13 ⟨vV, vY, rfl, hV13, hY13, hb13⟩
    refine ⟨_, rfl, ?_⟩
    have h13 := hr12.ret hb13 55 (.tu [.ag (tabC (bodyT T o) vV), .v vY, .v (.int .i64 (bodyE T o))]) rfl _ (hr12.all.below hb13) (by simp) rfl
    have k12 := SO.rep_lt hr12.all.1.1
    have hT13 := hT12.below hb13
    have hC13 := hC12.below hb13
    have hU13 := hU12.below hb13
    have hX13 := hX12.below hb13
    have hV13' := hV13.mono (P' := fun x => x ≠ s3) fun x _ h => by
      rcases h with h | h
      · exact h
      · omega
    have hY13' := hY13.mono (P' := fun x => x ≠ s3) fun x _ h => by omega
    obtain ⟨adV, nV, cpV, rfl⟩ : ∃ ad n cp, vV = Value.slice ad n cp := by obtain ⟨x1, x2, h1⟩ := hV13.slice; exact ⟨_, _, _, h1⟩
    obtain ⟨adY, nY, cpY, rfl⟩ : ∃ ad n cp, vY = Value.slice ad n cp := by obtain ⟨x1, x2, h1⟩ := hY13.slice; exact ⟨_, _, _, h1⟩
    refine seg cfg8_ok mixed PanicFree.body 9 [] [] h13.rebase (by first | trivial | exact HpRep.nil | assumption) (by kernel_rfl) fun s_ hs_ => ?_
    simp (maxSteps := 10000000) [SX.vc, SX.stop, SX.contS, SX.contB, SX.contW, SX.contR, SX.contD, SX.sxStep, SX.stepPure, SX.stepNew, SX.stepStore, SX.stepKeep, SX.guardIx, SX.evOp, SX.opd, SX.opds, SX.optOpd, SX.look, SX.putS, SX.gobs, SX.AllP, SX.leave, SX.lookC, SX.lookB, SX.lookT, SX.lookN, SX.findK, SX.evBuiltin, SX.ints, SX.foldI, SX.evBin, SX.evInt, SX.evStr, SX.evEq, SX.arith, SX.evLoad, SX.shapeUp, SX.evFieldAddr, SX.evField, SX.evIndexAddr, SX.evIndex, SX.evFill, SX.evBuild, SX.szs, SX.cellsV, SX.evNew, SX.evStore, SX.spliceL, SX.SV.cells, SX.evConv, SX.evSlice, SX.bnd, SX.evNil, SX.evUn, SX.evPick, SX.pickOpd, SX.popTo, SX.cnd, SX.env0, SX.TD.isAgg, SX.TD.isIface, SX.tails, SX.NotAgg, SX.evLookup, SX.evConvH, SX.evPtrEq, SX.isCells, SX.thaw, SX.frz, SX.fixB, SX.rootIx, SX.Froz, SX.frzStep, SX.fork, Go.Value.cells, Go.undef, cfg8, tabC, tabS]
    refine ⟨by (unfold SX.Ob; first | trivial | omega | ((try simp only [SX.inK]); (try simp [SX.den, SX.IsU8, SX.AllP, *]); (try omega))), ?_⟩
    intro a14 w14 hr14' _
    have hr14a := h13.unbase hr14'
    have hT14 := hT13.keep hr14'.keeps (by simp [frameAt, mutB])
    have hC14 := hC13.keep hr14'.keeps (by simp [frameAt, mutB])
    have hU14 := hU13.keep hr14'.keeps (by simp [frameAt, mutB])
    have hX14 := hX13.keep hr14'.keeps (by simp [frameAt, mutB])
    have hV14 := hV13'.keep hr14'.keeps (by simp [frameAt, mutB])
    have hY14 := hY13'.keep hr14'.keeps (by simp [frameAt, mutB])
    have hK14 := hK.below hr14a.keeps.toBelow
    have hr14b := hr14a.see _ (HpAll.imm hr14a.all)
    simp only [List.map_cons, List.map_nil] at hr14b
    have hr14 := hr14b.rebase
    refine seg cfg8_ok mixed PanicFree.body 1000 [] [] hr14 (by first | trivial | exact HpRep.nil | assumption) (by kernel_rfl) fun s_ hs_ => ?_
    simp (maxSteps := 10000000) [SX.vc, SX.stop, SX.contS, SX.contB, SX.contW, SX.contR, SX.contD, SX.sxStep, SX.stepPure, SX.stepNew, SX.stepStore, SX.stepKeep, SX.guardIx, SX.evOp, SX.opd, SX.opds, SX.optOpd, SX.look, SX.putS, SX.gobs, SX.AllP, SX.leave, SX.lookC, SX.lookB, SX.lookT, SX.lookN, SX.findK, SX.evBuiltin, SX.ints, SX.foldI, SX.evBin, SX.evInt, SX.evStr, SX.evEq, SX.arith, SX.evLoad, SX.shapeUp, SX.evFieldAddr, SX.evField, SX.evIndexAddr, SX.evIndex, SX.evFill, SX.evBuild, SX.szs, SX.cellsV, SX.evNew, SX.evStore, SX.spliceL, SX.SV.cells, SX.evConv, SX.evSlice, SX.bnd, SX.evNil, SX.evUn, SX.evPick, SX.pickOpd, SX.popTo, SX.cnd, SX.env0, SX.TD.isAgg, SX.TD.isIface, SX.tails, SX.NotAgg, SX.evLookup, SX.evConvH, SX.evPtrEq, SX.isCells, SX.thaw, SX.frz, SX.fixB, SX.rootIx, SX.Froz, SX.frzStep, SX.fork, Go.Value.cells, Go.undef, cfg8, tabC, tabS]
    refine ⟨by (unfold SX.Ob; first | trivial | omega | ((try simp only [SX.inK]); (try simp [SX.den, SX.IsU8, SX.AllP, *]); (try omega))), ?_⟩
    intro a15 w15 hr15 ht15
    refine post_callD 24 [.ag [.v (.int .i64 (bodyT T o).last), .v (.int .i64 (bodyT T o).now), .v (.slice adU (bodyT T o).L.length cpU)], .ag [.v (.int .i64 (bodyT T o).last), .v (.int .i64 (bodyT T o).now), .v (.slice adV nV cpV)]] hr15 rfl (by first | exact wanted_none rfl | exact wanted_zero (hr15.env.same rfl rfl rfl rfl) rfl (by simp) | exact wanted_zero (hr15.env.same rfl rfl rfl rfl) rfl (by simp [*])) rfl (callable 24 Try.func24) (rsame_ok w15 _ _ (bodyT T o) (bodyT T o) (hU14.below hr15.keeps.toBelow) (hV14.below hr15.keeps.toBelow) (by omega)) ?_
    rintro e16 w16 ⟨rfl, hb16⟩
    have ht16 := HpRep_below ht15 hb16
    refine ⟨_, rfl, ht16, ?_⟩
    have hr16 := hr15.ret hb16 61 (.v (.bool (decide (bodyT T o = bodyT T o)))) rfl _ (hr15.all.below hb16) (by simp) rfl
    refine seg cfg8_ok mixed PanicFree.body 1000 [] [(63, false), (69, false), (74, false), (80, false), (87, false), (99, false)] hr16 (by first | trivial | exact HpRep.nil | assumption) (by kernel_rfl) fun s_ hs_ => ?_
    simp (maxSteps := 10000000) [SX.vc, SX.stop, SX.contS, SX.contB, SX.contW, SX.contR, SX.contD, SX.sxStep, SX.stepPure, SX.stepNew, SX.stepStore, SX.stepKeep, SX.guardIx, SX.evOp, SX.opd, SX.opds, SX.optOpd, SX.look, SX.putS, SX.gobs, SX.AllP, SX.leave, SX.lookC, SX.lookB, SX.lookT, SX.lookN, SX.findK, SX.evBuiltin, SX.ints, SX.foldI, SX.evBin, SX.evInt, SX.evStr, SX.evEq, SX.arith, SX.evLoad, SX.shapeUp, SX.evFieldAddr, SX.evField, SX.evIndexAddr, SX.evIndex, SX.evFill, SX.evBuild, SX.szs, SX.cellsV, SX.evNew, SX.evStore, SX.spliceL, SX.SV.cells, SX.evConv, SX.evSlice, SX.bnd, SX.evNil, SX.evUn, SX.evPick, SX.pickOpd, SX.popTo, SX.cnd, SX.env0, SX.TD.isAgg, SX.TD.isIface, SX.tails, SX.NotAgg, SX.evLookup, SX.evConvH, SX.evPtrEq, SX.isCells, SX.thaw, SX.frz, SX.fixB, SX.rootIx, SX.Froz, SX.frzStep, SX.fork, Go.Value.cells, Go.undef, cfg8, tabC, tabS]
    refine ⟨by (unfold SX.Ob; first | trivial | omega | ((try simp only [SX.inK]); (try simp [SX.den, SX.IsU8, SX.AllP, *]); (try omega))), ?_⟩
    intro a17 w17 hr17 ht17
    refine post_callD 18 [.v (.slice adX nX cpX), .v (.slice adY nY cpY)] hr17 rfl (by first | exact wanted_none rfl | exact wanted_zero (hr17.env.same rfl rfl rfl rfl) rfl (by simp) | exact wanted_zero (hr17.env.same rfl rfl rfl rfl) rfl (by simp [*])) rfl (callable 18 Try.func18) (same_ok w17 _ _ (bodyX T o) (bodyX T o) (hX14.below hr17.keeps.toBelow) (hY14.below hr17.keeps.toBelow) (by omega)) ?_
    rintro e18 w18 ⟨rfl, hb18⟩
    have ht18 := HpRep_below ht17 hb18
    refine ⟨_, rfl, ht18, ?_⟩
    have hr18 := hr17.ret hb18 66 (.v (.bool (decide (bodyX T o = bodyX T o)))) rfl _ (hr17.all.below hb18) (by simp) rfl
    refine seg cfg8_ok mixed PanicFree.body 1000 [] [(63, false), (69, false), (74, false), (80, false), (87, false), (99, false)] hr18 (by first | trivial | exact HpRep.nil | assumption) (by kernel_rfl) fun s_ hs_ => ?_
    simp (maxSteps := 10000000) [SX.vc, SX.stop, SX.contS, SX.contB, SX.contW, SX.contR, SX.contD, SX.sxStep, SX.stepPure, SX.stepNew, SX.stepStore, SX.stepKeep, SX.guardIx, SX.evOp, SX.opd, SX.opds, SX.optOpd, SX.look, SX.putS, SX.gobs, SX.AllP, SX.leave, SX.lookC, SX.lookB, SX.lookT, SX.lookN, SX.findK, SX.evBuiltin, SX.ints, SX.foldI, SX.evBin, SX.evInt, SX.evStr, SX.evEq, SX.arith, SX.evLoad, SX.shapeUp, SX.evFieldAddr, SX.evField, SX.evIndexAddr, SX.evIndex, SX.evFill, SX.evBuild, SX.szs, SX.cellsV, SX.evNew, SX.evStore, SX.spliceL, SX.SV.cells, SX.evConv, SX.evSlice, SX.bnd, SX.evNil, SX.evUn, SX.evPick, SX.pickOpd, SX.popTo, SX.cnd, SX.env0, SX.TD.isAgg, SX.TD.isIface, SX.tails, SX.NotAgg, SX.evLookup, SX.evConvH, SX.evPtrEq, SX.isCells, SX.thaw, SX.frz, SX.fixB, SX.rootIx, SX.Froz, SX.frzStep, SX.fork, Go.Value.cells, Go.undef, cfg8, tabC, tabS]
    refine ⟨by (unfold SX.Ob; first | trivial | omega | ((try simp only [SX.inK]); (try simp [SX.den, SX.IsU8, SX.AllP, *]); (try omega))), ?_⟩
    intro a19 w19 hr19 ht19
    refine post_callD 24 [.ag [.v (.int .i64 T.last), .v (.int .i64 T.now), .v (.slice adT T.L.length cpT)], .ag [.v (.int .i64 T.last), .v (.int .i64 T.now), .v (.slice adC nC cpC)]] hr19 rfl (by first | exact wanted_none rfl | exact wanted_zero (hr19.env.same rfl rfl rfl rfl) rfl (by simp) | exact wanted_zero (hr19.env.same rfl rfl rfl rfl) rfl (by simp [*])) rfl (callable 24 Try.func24) (rsame_ok w19 _ _ T T (hT14.below hr19.keeps.toBelow) (hC14.below hr19.keeps.toBelow) (by omega)) ?_
    rintro e20 w20 ⟨rfl, hb20⟩
    have ht20 := HpRep_below ht19 hb20
    refine ⟨_, rfl, ht20, ?_⟩
    have hr20 := hr19.ret hb20 77 (.v (.bool (decide (T = T)))) rfl _ (hr19.all.below hb20) (by simp) rfl
    refine seg cfg8_ok mixed PanicFree.body 1000 [] [(63, false), (69, false), (74, false), (80, false), (87, false), (99, false)] hr20 (by first | trivial | exact HpRep.nil | assumption) (by kernel_rfl) fun s_ hs_ => ?_
    simp (maxSteps := 10000000) [SX.vc, SX.stop, SX.contS, SX.contB, SX.contW, SX.contR, SX.contD, SX.sxStep, SX.stepPure, SX.stepNew, SX.stepStore, SX.stepKeep, SX.guardIx, SX.evOp, SX.opd, SX.opds, SX.optOpd, SX.look, SX.putS, SX.gobs, SX.AllP, SX.leave, SX.lookC, SX.lookB, SX.lookT, SX.lookN, SX.findK, SX.evBuiltin, SX.ints, SX.foldI, SX.evBin, SX.evInt, SX.evStr, SX.evEq, SX.arith, SX.evLoad, SX.shapeUp, SX.evFieldAddr, SX.evField, SX.evIndexAddr, SX.evIndex, SX.evFill, SX.evBuild, SX.szs, SX.cellsV, SX.evNew, SX.evStore, SX.spliceL, SX.SV.cells, SX.evConv, SX.evSlice, SX.bnd, SX.evNil, SX.evUn, SX.evPick, SX.pickOpd, SX.popTo, SX.cnd, SX.env0, SX.TD.isAgg, SX.TD.isIface, SX.tails, SX.NotAgg, SX.evLookup, SX.evConvH, SX.evPtrEq, SX.isCells, SX.thaw, SX.frz, SX.fixB, SX.rootIx, SX.Froz, SX.frzStep, SX.fork, Go.Value.cells, Go.undef, cfg8, tabC, tabS]
    refine ⟨by (unfold SX.Ob; first | trivial | omega | ((try simp only [SX.inK]); (try simp [SX.den, SX.IsU8, SX.AllP, *]); (try omega))), ?_⟩
    intro a21 w21 hr21 ht21
    refine post_callD 25 [.ag [.v (.int .i64 T.last), .v (.int .i64 T.now), .v (.slice adT T.L.length cpT)]] hr21 rfl (by first | exact wanted_none rfl | exact wanted_zero (hr21.env.same rfl rfl rfl rfl) rfl (by simp) | exact wanted_zero (hr21.env.same rfl rfl rfl rfl) rfl (by simp [*])) rfl (callable 25 Try.func25) (check_ok w21 _ T (hT14.below hr21.keeps.toBelow) (by omega)) ?_
    rintro e22 w22 ⟨rfl, hb22⟩
    have ht22 := HpRep_below ht21 hb22
    refine ⟨_, rfl, ht22, ?_⟩
    have hr22 := hr21.ret hb22 82 (.v (.int .i64 (chkT T))) rfl _ (hr21.all.below hb22) (by simp) rfl
    refine seg cfg8_ok mixed PanicFree.body 1000 [] [(63, false), (69, false), (74, false), (80, false), (87, false), (99, false)] hr22 (by first | trivial | exact HpRep.nil | assumption) (by kernel_rfl) fun s_ hs_ => ?_
    simp (maxSteps := 10000000) [SX.vc, SX.stop, SX.contS, SX.contB, SX.contW, SX.contR, SX.contD, SX.sxStep, SX.stepPure, SX.stepNew, SX.stepStore, SX.stepKeep, SX.guardIx, SX.evOp, SX.opd, SX.opds, SX.optOpd, SX.look, SX.putS, SX.gobs, SX.AllP, SX.leave, SX.lookC, SX.lookB, SX.lookT, SX.lookN, SX.findK, SX.evBuiltin, SX.ints, SX.foldI, SX.evBin, SX.evInt, SX.evStr, SX.evEq, SX.arith, SX.evLoad, SX.shapeUp, SX.evFieldAddr, SX.evField, SX.evIndexAddr, SX.evIndex, SX.evFill, SX.evBuild, SX.szs, SX.cellsV, SX.evNew, SX.evStore, SX.spliceL, SX.SV.cells, SX.evConv, SX.evSlice, SX.bnd, SX.evNil, SX.evUn, SX.evPick, SX.pickOpd, SX.popTo, SX.cnd, SX.env0, SX.TD.isAgg, SX.TD.isIface, SX.tails, SX.NotAgg, SX.evLookup, SX.evConvH, SX.evPtrEq, SX.isCells, SX.thaw, SX.frz, SX.fixB, SX.rootIx, SX.Froz, SX.frzStep, SX.fork, Go.Value.cells, Go.undef, cfg8, tabC, tabS]
    refine ⟨by (unfold SX.Ob; first | trivial | omega | ((try simp only [SX.inK]); (try simp [SX.den, SX.IsU8, SX.AllP, *]); (try omega))), ?_⟩
    intro a23 w23 hr23 ht23
    refine post_callD 11 [.ag [.v (.int .i64 T.last), .v (.int .i64 T.now), .v (.slice adT T.L.length cpT)]] hr23 rfl (by first | exact wanted_none rfl | exact wanted_zero (hr23.env.same rfl rfl rfl rfl) rfl (by simp) | exact wanted_zero (hr23.env.same rfl rfl rfl rfl) rfl (by simp [*])) rfl (callable 11 Try.func11) (rcheck_ok w23 _ T (hT14.below hr23.keeps.toBelow) (by omega)) ?_
    rintro e24 w24 ⟨rfl, hb24⟩
    have ht24 := HpRep_below ht23 hb24
    refine ⟨_, rfl, ht24, ?_⟩
    have hr24 := hr23.ret hb24 84 (.v (.int .i64 (chkT T))) rfl _ (hr23.all.below hb24) (by simp) rfl
    refine seg cfg8_ok mixed PanicFree.body 1000 [] [(63, false), (69, false), (74, false), (80, false), (87, false), (99, false)] hr24 (by first | trivial | exact HpRep.nil | assumption) (by kernel_rfl) fun s_ hs_ => ?_
    simp (maxSteps := 10000000) [SX.vc, SX.stop, SX.contS, SX.contB, SX.contW, SX.contR, SX.contD, SX.sxStep, SX.stepPure, SX.stepNew, SX.stepStore, SX.stepKeep, SX.guardIx, SX.evOp, SX.opd, SX.opds, SX.optOpd, SX.look, SX.putS, SX.gobs, SX.AllP, SX.leave, SX.lookC, SX.lookB, SX.lookT, SX.lookN, SX.findK, SX.evBuiltin, SX.ints, SX.foldI, SX.evBin, SX.evInt, SX.evStr, SX.evEq, SX.arith, SX.evLoad, SX.shapeUp, SX.evFieldAddr, SX.evField, SX.evIndexAddr, SX.evIndex, SX.evFill, SX.evBuild, SX.szs, SX.cellsV, SX.evNew, SX.evStore, SX.spliceL, SX.SV.cells, SX.evConv, SX.evSlice, SX.bnd, SX.evNil, SX.evUn, SX.evPick, SX.pickOpd, SX.popTo, SX.cnd, SX.env0, SX.TD.isAgg, SX.TD.isIface, SX.tails, SX.NotAgg, SX.evLookup, SX.evConvH, SX.evPtrEq, SX.isCells, SX.thaw, SX.frz, SX.fixB, SX.rootIx, SX.Froz, SX.frzStep, SX.fork, Go.Value.cells, Go.undef, cfg8, tabC, tabS]
    refine ⟨by (unfold SX.Ob; first | trivial | omega | ((try simp only [SX.inK]); (try simp [SX.den, SX.IsU8, SX.AllP, *]); (try omega))), ?_⟩
    intro a25 w25 hr25 ht25
    refine post_callD 14 [.ag [.v (.int .i64 T.last), .v (.int .i64 T.now), .v (.slice adT T.L.length cpT)], .v (.int .i64 o.b)] hr25 rfl (by first | exact wanted_none rfl | exact wanted_zero (hr25.env.same rfl rfl rfl rfl) rfl (by simp) | exact wanted_zero (hr25.env.same rfl rfl rfl rfl) rfl (by simp [*])) rfl (callable 14 Try.func14) (Of_ok w25 _ T o.b (hT14.below hr25.keeps.toBelow) (by omega)) ?_
    rintro e26 w26 ⟨vO, rfl, hO26, hb26⟩
    have ht26 := HpRep_below ht25 hb26
    refine ⟨_, rfl, ht26, ?_⟩
    have hr26 := hr25.ret hb26 91 (.v vO) rfl _ (hr25.all.below hb26) (by simp) rfl
    refine seg cfg8_ok mixed PanicFree.body 1000 [] [(63, false), (69, false), (74, false), (80, false), (87, false), (99, false)] hr26.rebase (by first | trivial | exact HpRep.nil | assumption) (by kernel_rfl) fun s_ hs_ => ?_
    simp (maxSteps := 10000000) [SX.vc, SX.stop, SX.contS, SX.contB, SX.contW, SX.contR, SX.contD, SX.sxStep, SX.stepPure, SX.stepNew, SX.stepStore, SX.stepKeep, SX.guardIx, SX.evOp, SX.opd, SX.opds, SX.optOpd, SX.look, SX.putS, SX.gobs, SX.AllP, SX.leave, SX.lookC, SX.lookB, SX.lookT, SX.lookN, SX.findK, SX.evBuiltin, SX.ints, SX.foldI, SX.evBin, SX.evInt, SX.evStr, SX.evEq, SX.arith, SX.evLoad, SX.shapeUp, SX.evFieldAddr, SX.evField, SX.evIndexAddr, SX.evIndex, SX.evFill, SX.evBuild, SX.szs, SX.cellsV, SX.evNew, SX.evStore, SX.spliceL, SX.SV.cells, SX.evConv, SX.evSlice, SX.bnd, SX.evNil, SX.evUn, SX.evPick, SX.pickOpd, SX.popTo, SX.cnd, SX.env0, SX.TD.isAgg, SX.TD.isIface, SX.tails, SX.NotAgg, SX.evLookup, SX.evConvH, SX.evPtrEq, SX.isCells, SX.thaw, SX.frz, SX.fixB, SX.rootIx, SX.Froz, SX.frzStep, SX.fork, Go.Value.cells, Go.undef, cfg8, tabC, tabS]
    refine ⟨by (unfold SX.Ob; first | trivial | omega | ((try simp only [SX.inK]); (try simp [SX.den, SX.IsU8, SX.AllP, *]); (try omega))), ?_⟩
    intro a27 w27 hr27' ht27
    have hr27 := hr26.unbase hr27'
    have hO27 := hO26.below hr27'.keeps.toBelow
    refine post_callD 27 [.ag [.v (.int .i64 T.last), .v (.int .i64 T.now), .v (.slice adT T.L.length cpT)], .v (.int .i64 o.b)] hr27 rfl (by first | exact wanted_none rfl | exact wanted_zero (hr27.env.same rfl rfl rfl rfl) rfl (by simp) | exact wanted_zero (hr27.env.same rfl rfl rfl rfl) rfl (by simp [*])) rfl (callable 27 Try.func27) (rOf_ok w27 _ T o.b (hT14.below hr27.keeps.toBelow) (by omega)) ?_
    rintro e28 w28 ⟨vQ, rfl, hQ28, hb28⟩
    have ht28 := HpRep_below ht27 hb28
    refine ⟨_, rfl, ht28, ?_⟩
    have hr28 := hr27.ret hb28 95 (.v vQ) rfl _ (hr27.all.below hb28) (by simp) rfl
    have hO28 := hO27.below hb28
    refine seg cfg8_ok mixed PanicFree.body 1000 [] [(63, false), (69, false), (74, false), (80, false), (87, false), (99, false)] hr28.rebase (by first | trivial | exact HpRep.nil | assumption) (by kernel_rfl) fun s_ hs_ => ?_
    simp (maxSteps := 10000000) [SX.vc, SX.stop, SX.contS, SX.contB, SX.contW, SX.contR, SX.contD, SX.sxStep, SX.stepPure, SX.stepNew, SX.stepStore, SX.stepKeep, SX.guardIx, SX.evOp, SX.opd, SX.opds, SX.optOpd, SX.look, SX.putS, SX.gobs, SX.AllP, SX.leave, SX.lookC, SX.lookB, SX.lookT, SX.lookN, SX.findK, SX.evBuiltin, SX.ints, SX.foldI, SX.evBin, SX.evInt, SX.evStr, SX.evEq, SX.arith, SX.evLoad, SX.shapeUp, SX.evFieldAddr, SX.evField, SX.evIndexAddr, SX.evIndex, SX.evFill, SX.evBuild, SX.szs, SX.cellsV, SX.evNew, SX.evStore, SX.spliceL, SX.SV.cells, SX.evConv, SX.evSlice, SX.bnd, SX.evNil, SX.evUn, SX.evPick, SX.pickOpd, SX.popTo, SX.cnd, SX.env0, SX.TD.isAgg, SX.TD.isIface, SX.tails, SX.NotAgg, SX.evLookup, SX.evConvH, SX.evPtrEq, SX.isCells, SX.thaw, SX.frz, SX.fixB, SX.rootIx, SX.Froz, SX.frzStep, SX.fork, Go.Value.cells, Go.undef, cfg8, tabC, tabS]
    refine ⟨by (unfold SX.Ob; first | trivial | omega | ((try simp only [SX.inK]); (try simp [SX.den, SX.IsU8, SX.AllP, *]); (try omega))), ?_⟩
    intro a29 w29 hr29' ht29
    have hr29 := hr28.unbase hr29'
    have hO29 := hO28.below hr29'.keeps.toBelow
    have hQ29 := hQ28.below hr29'.keeps.toBelow
    refine post_callD 26 [.v vO, .v vQ] hr29 rfl (by first | exact wanted_none rfl | exact wanted_zero (hr29.env.same rfl rfl rfl rfl) rfl (by simp) | exact wanted_zero (hr29.env.same rfl rfl rfl rfl) rfl (by simp [*])) rfl (callable 26 Try.func26) (rints_ok w29 _ _ (ofL T o.b) (ofL T o.b) hO29.rd hQ29.rd (by omega)) ?_
    rintro e30 w30 ⟨rfl, hb30⟩
    have ht30 := HpRep_below ht29 hb30
    refine ⟨_, rfl, ht30, ?_⟩
    have hr30 := hr29.ret hb30 96 (.v (.bool (decide (ofL T o.b = ofL T o.b)))) rfl _ (hr29.all.below hb30) (by simp) rfl
    refine seg cfg8_ok mixed PanicFree.body 1000 [] [(63, false), (69, false), (74, false), (80, false), (87, false), (99, false)] hr30 (by first | trivial | exact HpRep.nil | assumption) (by kernel_rfl) fun s_ hs_ => ?_
    simp (maxSteps := 10000000) [SX.vc, SX.stop, SX.contS, SX.contB, SX.contW, SX.contR, SX.contD, SX.sxStep, SX.stepPure, SX.stepNew, SX.stepStore, SX.stepKeep, SX.guardIx, SX.evOp, SX.opd, SX.opds, SX.optOpd, SX.look, SX.putS, SX.gobs, SX.AllP, SX.leave, SX.lookC, SX.lookB, SX.lookT, SX.lookN, SX.findK, SX.evBuiltin, SX.ints, SX.foldI, SX.evBin, SX.evInt, SX.evStr, SX.evEq, SX.arith, SX.evLoad, SX.shapeUp, SX.evFieldAddr, SX.evField, SX.evIndexAddr, SX.evIndex, SX.evFill, SX.evBuild, SX.szs, SX.cellsV, SX.evNew, SX.evStore, SX.spliceL, SX.SV.cells, SX.evConv, SX.evSlice, SX.bnd, SX.evNil, SX.evUn, SX.evPick, SX.pickOpd, SX.popTo, SX.cnd, SX.env0, SX.TD.isAgg, SX.TD.isIface, SX.tails, SX.NotAgg, SX.evLookup, SX.evConvH, SX.evPtrEq, SX.isCells, SX.thaw, SX.frz, SX.fixB, SX.rootIx, SX.Froz, SX.frzStep, SX.fork, Go.Value.cells, Go.undef, cfg8, tabC, tabS]
    refine ⟨by (unfold SX.Ob; first | trivial | omega | ((try simp only [SX.inK]); (try simp [SX.den, SX.IsU8, SX.AllP, *]); (try omega))), ?_⟩
    intro a31 w31 hr31 ht31
    refine post_callD 12 [.ag [.v (.int .i64 T.last), .v (.int .i64 T.now), .v (.slice adT T.L.length cpT)], .v (.slice adk K.length cpk)] hr31 rfl (by first | exact wanted_none rfl | exact wanted_zero (hr31.env.same rfl rfl rfl rfl) rfl (by simp) | exact wanted_zero (hr31.env.same rfl rfl rfl rfl) rfl (by simp [*])) rfl (callable 12 Try.func12) (Next_ok w31 _ _ T K (hT14.below hr31.keeps.toBelow) (by omega) (hK14.below hr31.keeps.toBelow) (by omega)) ?_
    rintro e32 w32 ⟨n1, rfl, hn1, hb32⟩
    have ht32 := HpRep_below ht31 hb32
    refine ⟨_, rfl, ht32, ?_⟩
    have hr32 := hr31.ret hb32 102 (.v (.int .i64 n1)) rfl _ (hr31.all.below hb32) (by simp) rfl
    refine seg cfg8_ok mixed PanicFree.body 1000 [] [(63, false), (69, false), (74, false), (80, false), (87, false), (99, false)] hr32 (by first | trivial | exact HpRep.nil | assumption) (by kernel_rfl) fun s_ hs_ => ?_
    simp (maxSteps := 10000000) [SX.vc, SX.stop, SX.contS, SX.contB, SX.contW, SX.contR, SX.contD, SX.sxStep, SX.stepPure, SX.stepNew, SX.stepStore, SX.stepKeep, SX.guardIx, SX.evOp, SX.opd, SX.opds, SX.optOpd, SX.look, SX.putS, SX.gobs, SX.AllP, SX.leave, SX.lookC, SX.lookB, SX.lookT, SX.lookN, SX.findK, SX.evBuiltin, SX.ints, SX.foldI, SX.evBin, SX.evInt, SX.evStr, SX.evEq, SX.arith, SX.evLoad, SX.shapeUp, SX.evFieldAddr, SX.evField, SX.evIndexAddr, SX.evIndex, SX.evFill, SX.evBuild, SX.szs, SX.cellsV, SX.evNew, SX.evStore, SX.spliceL, SX.SV.cells, SX.evConv, SX.evSlice, SX.bnd, SX.evNil, SX.evUn, SX.evPick, SX.pickOpd, SX.popTo, SX.cnd, SX.env0, SX.TD.isAgg, SX.TD.isIface, SX.tails, SX.NotAgg, SX.evLookup, SX.evConvH, SX.evPtrEq, SX.isCells, SX.thaw, SX.frz, SX.fixB, SX.rootIx, SX.Froz, SX.frzStep, SX.fork, Go.Value.cells, Go.undef, cfg8, tabC, tabS]
    refine ⟨by (unfold SX.Ob; first | trivial | omega | ((try simp only [SX.inK]); (try simp [SX.den, SX.IsU8, SX.AllP, *]); (try omega))), ?_⟩
    intro a33 w33 hr33 ht33
    refine post_callD 28 [.ag [.v (.int .i64 T.last), .v (.int .i64 T.now), .v (.slice adT T.L.length cpT)], .v (.slice adk K.length cpk)] hr33 rfl (by first | exact wanted_none rfl | exact wanted_zero (hr33.env.same rfl rfl rfl rfl) rfl (by simp) | exact wanted_zero (hr33.env.same rfl rfl rfl rfl) rfl (by simp [*])) rfl (callable 28 Try.func28) (rNext_ok w33 _ _ T K (hT14.below hr33.keeps.toBelow) (by omega) (hK14.below hr33.keeps.toBelow) (by omega)) ?_
    rintro e34 w34 ⟨n2, rfl, hn2, hb34⟩
    have ht34 := HpRep_below ht33 hb34
    refine ⟨_, rfl, ht34, ?_⟩
    have hr34 := hr33.ret hb34 105 (.v (.int .i64 n2)) rfl _ (hr33.all.below hb34) (by simp) rfl
    obtain rfl : n1 = n2 := least_uniq (F := someL T (nextP K)) hn1 hn2
    refine seg cfg8_ok mixed PanicFree.body 1000 [false] [(63, false), (69, false), (74, false), (80, false), (87, false), (99, false)] hr34 (by first | trivial | exact HpRep.nil | assumption) (by kernel_rfl) fun s_ hs_ => ?_
    simp (maxSteps := 10000000) [SX.vc, SX.stop, SX.contS, SX.contB, SX.contW, SX.contR, SX.contD, SX.sxStep, SX.stepPure, SX.stepNew, SX.stepStore, SX.stepKeep, SX.guardIx, SX.evOp, SX.opd, SX.opds, SX.optOpd, SX.look, SX.putS, SX.gobs, SX.AllP, SX.leave, SX.lookC, SX.lookB, SX.lookT, SX.lookN, SX.findK, SX.evBuiltin, SX.ints, SX.foldI, SX.evBin, SX.evInt, SX.evStr, SX.evEq, SX.arith, SX.evLoad, SX.shapeUp, SX.evFieldAddr, SX.evField, SX.evIndexAddr, SX.evIndex, SX.evFill, SX.evBuild, SX.szs, SX.cellsV, SX.evNew, SX.evStore, SX.spliceL, SX.SV.cells, SX.evConv, SX.evSlice, SX.bnd, SX.evNil, SX.evUn, SX.evPick, SX.pickOpd, SX.popTo, SX.cnd, SX.env0, SX.TD.isAgg, SX.TD.isIface, SX.tails, SX.NotAgg, SX.evLookup, SX.evConvH, SX.evPtrEq, SX.isCells, SX.thaw, SX.frz, SX.fixB, SX.rootIx, SX.Froz, SX.frzStep, SX.fork, Go.Value.cells, Go.undef, cfg8, tabC, tabS]
    refine ⟨by (unfold SX.Ob; first | trivial | omega | ((try simp only [SX.inK]); (try simp [SX.den, SX.IsU8, SX.AllP, *]); (try omega))), ?_⟩
    intro a35 w35 hr35 _
    have hb35 := hr35.keeps.toBelow
    have h36 := hr14b.unbase hr35
    have hT35 := hT14.below hb35
    have hU35 := hU14.below hb35
    have h37 := h36.see _ (h36.all.mut1 (show (frame0 w).B ≤ s3 from hs3))
    by_cases hE : bodyE T o = 0
    · have hbb := body_bounds hE ha hTn
      refine seg cfg8_ok mixed PanicFree.body 1000 [true] [] h37.rebase (by first | trivial | exact HpRep.nil | assumption) (by kernel_rfl) fun s_ hs_ => ?_
      simp (maxSteps := 10000000) [SX.vc, SX.stop, SX.contS, SX.contB, SX.contW, SX.contR, SX.contD, SX.sxStep, SX.stepPure, SX.stepNew, SX.stepStore, SX.stepKeep, SX.guardIx, SX.evOp, SX.opd, SX.opds, SX.optOpd, SX.look, SX.putS, SX.gobs, SX.AllP, SX.leave, SX.lookC, SX.lookB, SX.lookT, SX.lookN, SX.findK, SX.evBuiltin, SX.ints, SX.foldI, SX.evBin, SX.evInt, SX.evStr, SX.evEq, SX.arith, SX.evLoad, SX.shapeUp, SX.evFieldAddr, SX.evField, SX.evIndexAddr, SX.evIndex, SX.evFill, SX.evBuild, SX.szs, SX.cellsV, SX.evNew, SX.evStore, SX.spliceL, SX.SV.cells, SX.evConv, SX.evSlice, SX.bnd, SX.evNil, SX.evUn, SX.evPick, SX.pickOpd, SX.popTo, SX.cnd, SX.env0, SX.TD.isAgg, SX.TD.isIface, SX.tails, SX.NotAgg, SX.evLookup, SX.evConvH, SX.evPtrEq, SX.isCells, SX.thaw, SX.frz, SX.fixB, SX.rootIx, SX.Froz, SX.frzStep, SX.fork, Go.Value.cells, Go.undef, cfg8, tabC, tabS, hE]
      refine ⟨by (unfold SX.Ob; first | trivial | omega | ((try simp only [SX.inK]); (try simp [SX.den, SX.IsU8, SX.AllP, *]); (try omega))), ?_⟩
      intro a38 w38 hr38' _
      have hr38 := h37.unbase hr38'
      exact post_rnd (G.length - (k + 1)) (by omega) ⟨k + 1, bodyT T o, adU, cpU, rfl, hlt, by omega, by omega, hbb.2, hU35.keep hr38'.keeps (by simp [frameAt, mutB]), hr38.re (by simp [envTo, SX.look, den]) (by have h := hr38.all.take 1; simp only [List.take_succ_cons, List.take_zero] at h; simpa only [tabS] using h) rfl rfl⟩
    · refine seg cfg8_ok mixed PanicFree.body 1000 [false] [] h37.rebase (by first | trivial | exact HpRep.nil | assumption) (by kernel_rfl) fun s_ hs_ => ?_
      simp (maxSteps := 10000000) [SX.vc, SX.stop, SX.contS, SX.contB, SX.contW, SX.contR, SX.contD, SX.sxStep, SX.stepPure, SX.stepNew, SX.stepStore, SX.stepKeep, SX.guardIx, SX.evOp, SX.opd, SX.opds, SX.optOpd, SX.look, SX.putS, SX.gobs, SX.AllP, SX.leave, SX.lookC, SX.lookB, SX.lookT, SX.lookN, SX.findK, SX.evBuiltin, SX.ints, SX.foldI, SX.evBin, SX.evInt, SX.evStr, SX.evEq, SX.arith, SX.evLoad, SX.shapeUp, SX.evFieldAddr, SX.evField, SX.evIndexAddr, SX.evIndex, SX.evFill, SX.evBuild, SX.szs, SX.cellsV, SX.evNew, SX.evStore, SX.spliceL, SX.SV.cells, SX.evConv, SX.evSlice, SX.bnd, SX.evNil, SX.evUn, SX.evPick, SX.pickOpd, SX.popTo, SX.cnd, SX.env0, SX.TD.isAgg, SX.TD.isIface, SX.tails, SX.NotAgg, SX.evLookup, SX.evConvH, SX.evPtrEq, SX.isCells, SX.thaw, SX.frz, SX.fixB, SX.rootIx, SX.Froz, SX.frzStep, SX.fork, Go.Value.cells, Go.undef, cfg8, tabC, tabS, hE]
      refine ⟨by (unfold SX.Ob; first | trivial | omega | ((try simp only [SX.inK]); (try simp [SX.den, SX.IsU8, SX.AllP, *]); (try omega))), ?_⟩
      intro a38 w38 hr38' _
      have hr38 := h37.unbase hr38'
      exact post_rnd (G.length - (k + 1)) (by omega) ⟨k + 1, T, adT, cpT, rfl, hlt, by omega, by omega, hTn, hT35.keep hr38'.keeps (by simp [frameAt, mutB]), hr38.re (by simp [envTo, SX.look, den]) (by have h := hr38.all.take 1; simp only [List.take_succ_cons, List.take_zero] at h; simpa only [tabS] using h) rfl rfl⟩

  · have hd0b : (o.d == 0) = false := by simp [hd0]
    refine seg cfg8_ok mixed PanicFree.body 1000 [true, false] [(37, false)] h7.rebase (by first | trivial | exact HpRep.nil | assumption) (by kernel_rfl) fun s7 hs7 => ?_
    simp (maxSteps := 10000000) [SX.vc, SX.stop, SX.contS, SX.contB, SX.contW, SX.contR, SX.contD, SX.sxStep, SX.stepPure, SX.stepNew, SX.stepStore, SX.stepKeep, SX.guardIx, SX.evOp, SX.opd, SX.opds, SX.optOpd, SX.look, SX.putS, SX.gobs, SX.AllP, SX.leave, SX.lookC, SX.lookB, SX.lookT, SX.lookN, SX.findK, SX.evBuiltin, SX.ints, SX.foldI, SX.evBin, SX.evInt, SX.evStr, SX.evEq, SX.arith, SX.evLoad, SX.shapeUp, SX.evFieldAddr, SX.evField, SX.evIndexAddr, SX.evIndex, SX.evFill, SX.evBuild, SX.szs, SX.cellsV, SX.evNew, SX.evStore, SX.spliceL, SX.SV.cells, SX.evConv, SX.evSlice, SX.bnd, SX.evNil, SX.evUn, SX.evPick, SX.pickOpd, SX.popTo, SX.cnd, SX.env0, SX.TD.isAgg, SX.TD.isIface, SX.tails, SX.NotAgg, SX.evLookup, SX.evConvH, SX.evPtrEq, SX.isCells, SX.thaw, SX.frz, SX.fixB, SX.rootIx, SX.Froz, SX.frzStep, SX.fork, Go.Value.cells, Go.undef, cfg8, oprC, tabS, ho, hd0b]
    refine ⟨by (unfold SX.Ob; first | trivial | omega | ((try simp only [SX.inK]); (try simp [SX.den, SX.IsU8, SX.AllP, *]); (try omega))), ?_⟩
    intro a8 w8 hr8' _
    have hr8a := h7.unbase hr8'
    have hT8 := hT6.keep hr8'.keeps (by simp [frameAt, mutB])
    have hr8 := hr8a.see _ (HpAll.imm1 hr8a.all)
    simp only [List.map_cons, List.map_nil] at hr8
    refine post_call 22 [.ag [.v (.int .i64 T.last), .v (.int .i64 T.now), .v (.slice adT T.L.length cpT)]] hr8 (by first | exact wanted_none rfl | exact wanted_zero (hr8.env.same rfl rfl rfl rfl) rfl (by simp) | exact wanted_zero (hr8.env.same rfl rfl rfl rfl) rfl (by simp [*])) rfl (callable 22 Try.func22) (copy_ok w8 _ T hT8 (by omega)) ?_
    rintro e9 w9 ⟨v9, rfl, hC9, hb9⟩
    refine ⟨_, rfl, ?_⟩
    have h9 := hr8.ret hb9 44 (.ag (tabC T v9)) rfl _ (hr8.all.below hb9) (by simp) rfl
    have k8 := SO.rep_lt hr8.all.1.1
    have hT9 := hT8.below hb9
    have hC9' := hC9.rd.mono (P' := fun x => x ≠ s3) fun x _ h => by omega
    obtain ⟨adC, nC, cpC, rfl⟩ : ∃ ad n cp, v9 = Value.slice ad n cp := by obtain ⟨x1, x2, h1⟩ := hC9.slice; exact ⟨_, _, _, h1⟩
    refine seg cfg8_ok mixed PanicFree.body 1000 [] [] h9.rebase (by first | trivial | exact HpRep.nil | assumption) (by kernel_rfl) fun s_ hs_ => ?_
    simp (maxSteps := 10000000) [SX.vc, SX.stop, SX.contS, SX.contB, SX.contW, SX.contR, SX.contD, SX.sxStep, SX.stepPure, SX.stepNew, SX.stepStore, SX.stepKeep, SX.guardIx, SX.evOp, SX.opd, SX.opds, SX.optOpd, SX.look, SX.putS, SX.gobs, SX.AllP, SX.leave, SX.lookC, SX.lookB, SX.lookT, SX.lookN, SX.findK, SX.evBuiltin, SX.ints, SX.foldI, SX.evBin, SX.evInt, SX.evStr, SX.evEq, SX.arith, SX.evLoad, SX.shapeUp, SX.evFieldAddr, SX.evField, SX.evIndexAddr, SX.evIndex, SX.evFill, SX.evBuild, SX.szs, SX.cellsV, SX.evNew, SX.evStore, SX.spliceL, SX.SV.cells, SX.evConv, SX.evSlice, SX.bnd, SX.evNil, SX.evUn, SX.evPick, SX.pickOpd, SX.popTo, SX.cnd, SX.env0, SX.TD.isAgg, SX.TD.isIface, SX.tails, SX.NotAgg, SX.evLookup, SX.evConvH, SX.evPtrEq, SX.isCells, SX.thaw, SX.frz, SX.fixB, SX.rootIx, SX.Froz, SX.frzStep, SX.fork, Go.Value.cells, Go.undef, cfg8, tabC, tabS]
    refine ⟨by (unfold SX.Ob; first | trivial | omega | ((try simp only [SX.inK]); (try simp [SX.den, SX.IsU8, SX.AllP, *]); (try omega))), ?_⟩
    intro a10 w10 hr10' _
    have hr10a := h9.unbase hr10'
    have hT10 := hT9.keep hr10'.keeps (by simp [frameAt, mutB])
    have hC10 := hC9'.keep hr10'.keeps (by simp [frameAt, mutB])
    have hr10 := hr10a.see _ (HpAll.imm1 hr10a.all)
    simp only [List.map_cons, List.map_nil] at hr10
    refine post_call 19 [.ag [.v (.int .i64 T.last), .v (.int .i64 T.now), .v (.slice adT T.L.length cpT)], .ag [.v (.int .i64 o.d), .v (.int .i64 o.a), .v (.int .i64 o.b), .v (.int .i64 o.c), .v (.int .i64 o.x)]] hr10 (by first | exact wanted_none rfl | exact wanted_zero (hr10.env.same rfl rfl rfl rfl) rfl (by simp) | exact wanted_zero (hr10.env.same rfl rfl rfl rfl) rfl (by simp [*])) rfl (callable 19 Try.func19) (body_ok w10 _ T o hT10 (by omega) (by omega) (by omega)) ?_
    rintro e11 w11 ⟨vU, vX, rfl, hU11, hX11, hb11⟩
    refine ⟨_, rfl, ?_⟩
    have h11 := hr10.ret hb11 48 (.tu [.ag (tabC (bodyT T o) vU), .v vX, .v (.int .i64 (bodyE T o))]) rfl _ (hr10.all.below hb11) (by simp) rfl
    have k10 := SO.rep_lt hr10.all.1.1
    have hT11 := hT10.below hb11
    have hC11 := hC10.below hb11
    have hU11' := hU11.mono (P' := fun x => x ≠ s3) fun x _ h => by
      rcases h with h | h
      · exact h
      · omega
    have hX11' := hX11.mono (P' := fun x => x ≠ s3) fun x _ h => by omega
    obtain ⟨adU, cpU, rfl⟩ := hU11.slice
    obtain ⟨adX, nX, cpX, rfl⟩ : ∃ ad n cp, vX = Value.slice ad n cp := by obtain ⟨x1, x2, h1⟩ := hX11.slice; exact ⟨_, _, _, h1⟩
    refine seg cfg8_ok mixed PanicFree.body 1000 [] [] h11.rebase (by first | trivial | exact HpRep.nil | assumption) (by kernel_rfl) fun s_ hs_ => ?_
    simp (maxSteps := 10000000) [SX.vc, SX.stop, SX.contS, SX.contB, SX.contW, SX.contR, SX.contD, SX.sxStep, SX.stepPure, SX.stepNew, SX.stepStore, SX.stepKeep, SX.guardIx, SX.evOp, SX.opd, SX.opds, SX.optOpd, SX.look, SX.putS, SX.gobs, SX.AllP, SX.leave, SX.lookC, SX.lookB, SX.lookT, SX.lookN, SX.findK, SX.evBuiltin, SX.ints, SX.foldI, SX.evBin, SX.evInt, SX.evStr, SX.evEq, SX.arith, SX.evLoad, SX.shapeUp, SX.evFieldAddr, SX.evField, SX.evIndexAddr, SX.evIndex, SX.evFill, SX.evBuild, SX.szs, SX.cellsV, SX.evNew, SX.evStore, SX.spliceL, SX.SV.cells, SX.evConv, SX.evSlice, SX.bnd, SX.evNil, SX.evUn, SX.evPick, SX.pickOpd, SX.popTo, SX.cnd, SX.env0, SX.TD.isAgg, SX.TD.isIface, SX.tails, SX.NotAgg, SX.evLookup, SX.evConvH, SX.evPtrEq, SX.isCells, SX.thaw, SX.frz, SX.fixB, SX.rootIx, SX.Froz, SX.frzStep, SX.fork, Go.Value.cells, Go.undef, cfg8, tabC, tabS]
    refine ⟨by (unfold SX.Ob; first | trivial | omega | ((try simp only [SX.inK]); (try simp [SX.den, SX.IsU8, SX.AllP, *]); (try omega))), ?_⟩
    intro a12 w12 hr12' _
    have hr12a := h11.unbase hr12'
    have hT12 := hT11.keep hr12'.keeps (by simp [frameAt, mutB])
    have hC12 := hC11.keep hr12'.keeps (by simp [frameAt, mutB])
    have hU12 := hU11'.keep hr12'.keeps (by simp [frameAt, mutB])
    have hX12 := hX11'.keep hr12'.keeps (by simp [frameAt, mutB])
    have hr12 := hr12a.see _ (HpAll.imm1 hr12a.all)
    simp only [List.map_cons, List.map_nil] at hr12
    refine post_call 23 [.ag [.v (.int .i64 T.last), .v (.int .i64 T.now), .v (.slice adT T.L.length cpT)], .ag [.v (.int .i64 o.d), .v (.int .i64 o.a), .v (.int .i64 o.b), .v (.int .i64 o.c), .v (.int .i64 o.x)]] hr12 (by first | exact wanted_none rfl | exact wanted_zero (hr12.env.same rfl rfl rfl rfl) rfl (by simp) | exact wanted_zero (hr12.env.same rfl rfl rfl rfl) rfl (by simp [*])) rfl (callable 23 Try.func23) (model_ok w12 _ T o hT12 (by omega) (by omega) (by omega)) ?_
    rintro e13 w13 ⟨vV, vY, rfl, hV13, hY13, hb13⟩
    refine ⟨_, rfl, ?_⟩
    have h13 := hr12.ret hb13 55 (.tu [.ag (tabC (bodyT T o) vV), .v vY, .v (.int .i64 (bodyE T o))]) rfl _ (hr12.all.below hb13) (by simp) rfl
    have k12 := SO.rep_lt hr12.all.1.1
    have hT13 := hT12.below hb13
    have hC13 := hC12.below hb13
    have hU13 := hU12.below hb13
    have hX13 := hX12.below hb13
    have hV13' := hV13.mono (P' := fun x => x ≠ s3) fun x _ h => by
      rcases h with h | h
      · exact h
      · omega
    have hY13' := hY13.mono (P' := fun x => x ≠ s3) fun x _ h => by omega
    obtain ⟨adV, nV, cpV, rfl⟩ : ∃ ad n cp, vV = Value.slice ad n cp := by obtain ⟨x1, x2, h1⟩ := hV13.slice; exact ⟨_, _, _, h1⟩
    obtain ⟨adY, nY, cpY, rfl⟩ : ∃ ad n cp, vY = Value.slice ad n cp := by obtain ⟨x1, x2, h1⟩ := hY13.slice; exact ⟨_, _, _, h1⟩
    refine seg cfg8_ok mixed PanicFree.body 9 [] [] h13.rebase (by first | trivial | exact HpRep.nil | assumption) (by kernel_rfl) fun s_ hs_ => ?_
    simp (maxSteps := 10000000) [SX.vc, SX.stop, SX.contS, SX.contB, SX.contW, SX.contR, SX.contD, SX.sxStep, SX.stepPure, SX.stepNew, SX.stepStore, SX.stepKeep, SX.guardIx, SX.evOp, SX.opd, SX.opds, SX.optOpd, SX.look, SX.putS, SX.gobs, SX.AllP, SX.leave, SX.lookC, SX.lookB, SX.lookT, SX.lookN, SX.findK, SX.evBuiltin, SX.ints, SX.foldI, SX.evBin, SX.evInt, SX.evStr, SX.evEq, SX.arith, SX.evLoad, SX.shapeUp, SX.evFieldAddr, SX.evField, SX.evIndexAddr, SX.evIndex, SX.evFill, SX.evBuild, SX.szs, SX.cellsV, SX.evNew, SX.evStore, SX.spliceL, SX.SV.cells, SX.evConv, SX.evSlice, SX.bnd, SX.evNil, SX.evUn, SX.evPick, SX.pickOpd, SX.popTo, SX.cnd, SX.env0, SX.TD.isAgg, SX.TD.isIface, SX.tails, SX.NotAgg, SX.evLookup, SX.evConvH, SX.evPtrEq, SX.isCells, SX.thaw, SX.frz, SX.fixB, SX.rootIx, SX.Froz, SX.frzStep, SX.fork, Go.Value.cells, Go.undef, cfg8, tabC, tabS]
    refine ⟨by (unfold SX.Ob; first | trivial | omega | ((try simp only [SX.inK]); (try simp [SX.den, SX.IsU8, SX.AllP, *]); (try omega))), ?_⟩
    intro a14 w14 hr14' _
    have hr14a := h13.unbase hr14'
    have hT14 := hT13.keep hr14'.keeps (by simp [frameAt, mutB])
    have hC14 := hC13.keep hr14'.keeps (by simp [frameAt, mutB])
    have hU14 := hU13.keep hr14'.keeps (by simp [frameAt, mutB])
    have hX14 := hX13.keep hr14'.keeps (by simp [frameAt, mutB])
    have hV14 := hV13'.keep hr14'.keeps (by simp [frameAt, mutB])
    have hY14 := hY13'.keep hr14'.keeps (by simp [frameAt, mutB])
    have hK14 := hK.below hr14a.keeps.toBelow
    have hr14b := hr14a.see _ (HpAll.imm hr14a.all)
    simp only [List.map_cons, List.map_nil] at hr14b
    have hr14 := hr14b.rebase
    refine seg cfg8_ok mixed PanicFree.body 1000 [] [] hr14 (by first | trivial | exact HpRep.nil | assumption) (by kernel_rfl) fun s_ hs_ => ?_
    simp (maxSteps := 10000000) [SX.vc, SX.stop, SX.contS, SX.contB, SX.contW, SX.contR, SX.contD, SX.sxStep, SX.stepPure, SX.stepNew, SX.stepStore, SX.stepKeep, SX.guardIx, SX.evOp, SX.opd, SX.opds, SX.optOpd, SX.look, SX.putS, SX.gobs, SX.AllP, SX.leave, SX.lookC, SX.lookB, SX.lookT, SX.lookN, SX.findK, SX.evBuiltin, SX.ints, SX.foldI, SX.evBin, SX.evInt, SX.evStr, SX.evEq, SX.arith, SX.evLoad, SX.shapeUp, SX.evFieldAddr, SX.evField, SX.evIndexAddr, SX.evIndex, SX.evFill, SX.evBuild, SX.szs, SX.cellsV, SX.evNew, SX.evStore, SX.spliceL, SX.SV.cells, SX.evConv, SX.evSlice, SX.bnd, SX.evNil, SX.evUn, SX.evPick, SX.pickOpd, SX.popTo, SX.cnd, SX.env0, SX.TD.isAgg, SX.TD.isIface, SX.tails, SX.NotAgg, SX.evLookup, SX.evConvH, SX.evPtrEq, SX.isCells, SX.thaw, SX.frz, SX.fixB, SX.rootIx, SX.Froz, SX.frzStep, SX.fork, Go.Value.cells, Go.undef, cfg8, tabC, tabS]
    refine ⟨by (unfold SX.Ob; first | trivial | omega | ((try simp only [SX.inK]); (try simp [SX.den, SX.IsU8, SX.AllP, *]); (try omega))), ?_⟩
    intro a15 w15 hr15 ht15
    refine post_callD 24 [.ag [.v (.int .i64 (bodyT T o).last), .v (.int .i64 (bodyT T o).now), .v (.slice adU (bodyT T o).L.length cpU)], .ag [.v (.int .i64 (bodyT T o).last), .v (.int .i64 (bodyT T o).now), .v (.slice adV nV cpV)]] hr15 rfl (by first | exact wanted_none rfl | exact wanted_zero (hr15.env.same rfl rfl rfl rfl) rfl (by simp) | exact wanted_zero (hr15.env.same rfl rfl rfl rfl) rfl (by simp [*])) rfl (callable 24 Try.func24) (rsame_ok w15 _ _ (bodyT T o) (bodyT T o) (hU14.below hr15.keeps.toBelow) (hV14.below hr15.keeps.toBelow) (by omega)) ?_
    rintro e16 w16 ⟨rfl, hb16⟩
    have ht16 := HpRep_below ht15 hb16
    refine ⟨_, rfl, ht16, ?_⟩
    have hr16 := hr15.ret hb16 61 (.v (.bool (decide (bodyT T o = bodyT T o)))) rfl _ (hr15.all.below hb16) (by simp) rfl
    refine seg cfg8_ok mixed PanicFree.body 1000 [] [(63, false), (69, false), (74, false), (80, false), (87, false), (99, false)] hr16 (by first | trivial | exact HpRep.nil | assumption) (by kernel_rfl) fun s_ hs_ => ?_
    simp (maxSteps := 10000000) [SX.vc, SX.stop, SX.contS, SX.contB, SX.contW, SX.contR, SX.contD, SX.sxStep, SX.stepPure, SX.stepNew, SX.stepStore, SX.stepKeep, SX.guardIx, SX.evOp, SX.opd, SX.opds, SX.optOpd, SX.look, SX.putS, SX.gobs, SX.AllP, SX.leave, SX.lookC, SX.lookB, SX.lookT, SX.lookN, SX.findK, SX.evBuiltin, SX.ints, SX.foldI, SX.evBin, SX.evInt, SX.evStr, SX.evEq, SX.arith, SX.evLoad, SX.shapeUp, SX.evFieldAddr, SX.evField, SX.evIndexAddr, SX.evIndex, SX.evFill, SX.evBuild, SX.szs, SX.cellsV, SX.evNew, SX.evStore, SX.spliceL, SX.SV.cells, SX.evConv, SX.evSlice, SX.bnd, SX.evNil, SX.evUn, SX.evPick, SX.pickOpd, SX.popTo, SX.cnd, SX.env0, SX.TD.isAgg, SX.TD.isIface, SX.tails, SX.NotAgg, SX.evLookup, SX.evConvH, SX.evPtrEq, SX.isCells, SX.thaw, SX.frz, SX.fixB, SX.rootIx, SX.Froz, SX.frzStep, SX.fork, Go.Value.cells, Go.undef, cfg8, tabC, tabS]
    refine ⟨by (unfold SX.Ob; first | trivial | omega | ((try simp only [SX.inK]); (try simp [SX.den, SX.IsU8, SX.AllP, *]); (try omega))), ?_⟩
    intro a17 w17 hr17 ht17
    refine post_callD 18 [.v (.slice adX nX cpX), .v (.slice adY nY cpY)] hr17 rfl (by first | exact wanted_none rfl | exact wanted_zero (hr17.env.same rfl rfl rfl rfl) rfl (by simp) | exact wanted_zero (hr17.env.same rfl rfl rfl rfl) rfl (by simp [*])) rfl (callable 18 Try.func18) (same_ok w17 _ _ (bodyX T o) (bodyX T o) (hX14.below hr17.keeps.toBelow) (hY14.below hr17.keeps.toBelow) (by omega)) ?_
    rintro e18 w18 ⟨rfl, hb18⟩
    have ht18 := HpRep_below ht17 hb18
    refine ⟨_, rfl, ht18, ?_⟩
    have hr18 := hr17.ret hb18 66 (.v (.bool (decide (bodyX T o = bodyX T o)))) rfl _ (hr17.all.below hb18) (by simp) rfl
    refine seg cfg8_ok mixed PanicFree.body 1000 [] [(63, false), (69, false), (74, false), (80, false), (87, false), (99, false)] hr18 (by first | trivial | exact HpRep.nil | assumption) (by kernel_rfl) fun s_ hs_ => ?_
    simp (maxSteps := 10000000) [SX.vc, SX.stop, SX.contS, SX.contB, SX.contW, SX.contR, SX.contD, SX.sxStep, SX.stepPure, SX.stepNew, SX.stepStore, SX.stepKeep, SX.guardIx, SX.evOp, SX.opd, SX.opds, SX.optOpd, SX.look, SX.putS, SX.gobs, SX.AllP, SX.leave, SX.lookC, SX.lookB, SX.lookT, SX.lookN, SX.findK, SX.evBuiltin, SX.ints, SX.foldI, SX.evBin, SX.evInt, SX.evStr, SX.evEq, SX.arith, SX.evLoad, SX.shapeUp, SX.evFieldAddr, SX.evField, SX.evIndexAddr, SX.evIndex, SX.evFill, SX.evBuild, SX.szs, SX.cellsV, SX.evNew, SX.evStore, SX.spliceL, SX.SV.cells, SX.evConv, SX.evSlice, SX.bnd, SX.evNil, SX.evUn, SX.evPick, SX.pickOpd, SX.popTo, SX.cnd, SX.env0, SX.TD.isAgg, SX.TD.isIface, SX.tails, SX.NotAgg, SX.evLookup, SX.evConvH, SX.evPtrEq, SX.isCells, SX.thaw, SX.frz, SX.fixB, SX.rootIx, SX.Froz, SX.frzStep, SX.fork, Go.Value.cells, Go.undef, cfg8, tabC, tabS]
    refine ⟨by (unfold SX.Ob; first | trivial | omega | ((try simp only [SX.inK]); (try simp [SX.den, SX.IsU8, SX.AllP, *]); (try omega))), ?_⟩
    intro a19 w19 hr19 ht19
    refine post_callD 24 [.ag [.v (.int .i64 T.last), .v (.int .i64 T.now), .v (.slice adT T.L.length cpT)], .ag [.v (.int .i64 T.last), .v (.int .i64 T.now), .v (.slice adC nC cpC)]] hr19 rfl (by first | exact wanted_none rfl | exact wanted_zero (hr19.env.same rfl rfl rfl rfl) rfl (by simp) | exact wanted_zero (hr19.env.same rfl rfl rfl rfl) rfl (by simp [*])) rfl (callable 24 Try.func24) (rsame_ok w19 _ _ T T (hT14.below hr19.keeps.toBelow) (hC14.below hr19.keeps.toBelow) (by omega)) ?_
    rintro e20 w20 ⟨rfl, hb20⟩
    have ht20 := HpRep_below ht19 hb20
    refine ⟨_, rfl, ht20, ?_⟩
    have hr20 := hr19.ret hb20 77 (.v (.bool (decide (T = T)))) rfl _ (hr19.all.below hb20) (by simp) rfl
    refine seg cfg8_ok mixed PanicFree.body 1000 [] [(63, false), (69, false), (74, false), (80, false), (87, false), (99, false)] hr20 (by first | trivial | exact HpRep.nil | assumption) (by kernel_rfl) fun s_ hs_ => ?_
    simp (maxSteps := 10000000) [SX.vc, SX.stop, SX.contS, SX.contB, SX.contW, SX.contR, SX.contD, SX.sxStep, SX.stepPure, SX.stepNew, SX.stepStore, SX.stepKeep, SX.guardIx, SX.evOp, SX.opd, SX.opds, SX.optOpd, SX.look, SX.putS, SX.gobs, SX.AllP, SX.leave, SX.lookC, SX.lookB, SX.lookT, SX.lookN, SX.findK, SX.evBuiltin, SX.ints, SX.foldI, SX.evBin, SX.evInt, SX.evStr, SX.evEq, SX.arith, SX.evLoad, SX.shapeUp, SX.evFieldAddr, SX.evField, SX.evIndexAddr, SX.evIndex, SX.evFill, SX.evBuild, SX.szs, SX.cellsV, SX.evNew, SX.evStore, SX.spliceL, SX.SV.cells, SX.evConv, SX.evSlice, SX.bnd, SX.evNil, SX.evUn, SX.evPick, SX.pickOpd, SX.popTo, SX.cnd, SX.env0, SX.TD.isAgg, SX.TD.isIface, SX.tails, SX.NotAgg, SX.evLookup, SX.evConvH, SX.evPtrEq, SX.isCells, SX.thaw, SX.frz, SX.fixB, SX.rootIx, SX.Froz, SX.frzStep, SX.fork, Go.Value.cells, Go.undef, cfg8, tabC, tabS]
    refine ⟨by (unfold SX.Ob; first | trivial | omega | ((try simp only [SX.inK]); (try simp [SX.den, SX.IsU8, SX.AllP, *]); (try omega))), ?_⟩
    intro a21 w21 hr21 ht21
    refine post_callD 25 [.ag [.v (.int .i64 T.last), .v (.int .i64 T.now), .v (.slice adT T.L.length cpT)]] hr21 rfl (by first | exact wanted_none rfl | exact wanted_zero (hr21.env.same rfl rfl rfl rfl) rfl (by simp) | exact wanted_zero (hr21.env.same rfl rfl rfl rfl) rfl (by simp [*])) rfl (callable 25 Try.func25) (check_ok w21 _ T (hT14.below hr21.keeps.toBelow) (by omega)) ?_
    rintro e22 w22 ⟨rfl, hb22⟩
    have ht22 := HpRep_below ht21 hb22
    refine ⟨_, rfl, ht22, ?_⟩
    have hr22 := hr21.ret hb22 82 (.v (.int .i64 (chkT T))) rfl _ (hr21.all.below hb22) (by simp) rfl
    refine seg cfg8_ok mixed PanicFree.body 1000 [] [(63, false), (69, false), (74, false), (80, false), (87, false), (99, false)] hr22 (by first | trivial | exact HpRep.nil | assumption) (by kernel_rfl) fun s_ hs_ => ?_
    simp (maxSteps := 10000000) [SX.vc, SX.stop, SX.contS, SX.contB, SX.contW, SX.contR, SX.contD, SX.sxStep, SX.stepPure, SX.stepNew, SX.stepStore, SX.stepKeep, SX.guardIx, SX.evOp, SX.opd, SX.opds, SX.optOpd, SX.look, SX.putS, SX.gobs, SX.AllP, SX.leave, SX.lookC, SX.lookB, SX.lookT, SX.lookN, SX.findK, SX.evBuiltin, SX.ints, SX.foldI, SX.evBin, SX.evInt, SX.evStr, SX.evEq, SX.arith, SX.evLoad, SX.shapeUp, SX.evFieldAddr, SX.evField, SX.evIndexAddr, SX.evIndex, SX.evFill, SX.evBuild, SX.szs, SX.cellsV, SX.evNew, SX.evStore, SX.spliceL, SX.SV.cells, SX.evConv, SX.evSlice, SX.bnd, SX.evNil, SX.evUn, SX.evPick, SX.pickOpd, SX.popTo, SX.cnd, SX.env0, SX.TD.isAgg, SX.TD.isIface, SX.tails, SX.NotAgg, SX.evLookup, SX.evConvH, SX.evPtrEq, SX.isCells, SX.thaw, SX.frz, SX.fixB, SX.rootIx, SX.Froz, SX.frzStep, SX.fork, Go.Value.cells, Go.undef, cfg8, tabC, tabS]
    refine ⟨by (unfold SX.Ob; first | trivial | omega | ((try simp only [SX.inK]); (try simp [SX.den, SX.IsU8, SX.AllP, *]); (try omega))), ?_⟩
    intro a23 w23 hr23 ht23
    refine post_callD 11 [.ag [.v (.int .i64 T.last), .v (.int .i64 T.now), .v (.slice adT T.L.length cpT)]] hr23 rfl (by first | exact wanted_none rfl | exact wanted_zero (hr23.env.same rfl rfl rfl rfl) rfl (by simp) | exact wanted_zero (hr23.env.same rfl rfl rfl rfl) rfl (by simp [*])) rfl (callable 11 Try.func11) (rcheck_ok w23 _ T (hT14.below hr23.keeps.toBelow) (by omega)) ?_
    rintro e24 w24 ⟨rfl, hb24⟩
    have ht24 := HpRep_below ht23 hb24
    refine ⟨_, rfl, ht24, ?_⟩
    have hr24 := hr23.ret hb24 84 (.v (.int .i64 (chkT T))) rfl _ (hr23.all.below hb24) (by simp) rfl
    refine seg cfg8_ok mixed PanicFree.body 1000 [] [(63, false), (69, false), (74, false), (80, false), (87, false), (99, false)] hr24 (by first | trivial | exact HpRep.nil | assumption) (by kernel_rfl) fun s_ hs_ => ?_
    simp (maxSteps := 10000000) [SX.vc, SX.stop, SX.contS, SX.contB, SX.contW, SX.contR, SX.contD, SX.sxStep, SX.stepPure, SX.stepNew, SX.stepStore, SX.stepKeep, SX.guardIx, SX.evOp, SX.opd, SX.opds, SX.optOpd, SX.look, SX.putS, SX.gobs, SX.AllP, SX.leave, SX.lookC, SX.lookB, SX.lookT, SX.lookN, SX.findK, SX.evBuiltin, SX.ints, SX.foldI, SX.evBin, SX.evInt, SX.evStr, SX.evEq, SX.arith, SX.evLoad, SX.shapeUp, SX.evFieldAddr, SX.evField, SX.evIndexAddr, SX.evIndex, SX.evFill, SX.evBuild, SX.szs, SX.cellsV, SX.evNew, SX.evStore, SX.spliceL, SX.SV.cells, SX.evConv, SX.evSlice, SX.bnd, SX.evNil, SX.evUn, SX.evPick, SX.pickOpd, SX.popTo, SX.cnd, SX.env0, SX.TD.isAgg, SX.TD.isIface, SX.tails, SX.NotAgg, SX.evLookup, SX.evConvH, SX.evPtrEq, SX.isCells, SX.thaw, SX.frz, SX.fixB, SX.rootIx, SX.Froz, SX.frzStep, SX.fork, Go.Value.cells, Go.undef, cfg8, tabC, tabS]
    refine ⟨by (unfold SX.Ob; first | trivial | omega | ((try simp only [SX.inK]); (try simp [SX.den, SX.IsU8, SX.AllP, *]); (try omega))), ?_⟩
    intro a25 w25 hr25 ht25
    refine post_callD 14 [.ag [.v (.int .i64 T.last), .v (.int .i64 T.now), .v (.slice adT T.L.length cpT)], .v (.int .i64 o.b)] hr25 rfl (by first | exact wanted_none rfl | exact wanted_zero (hr25.env.same rfl rfl rfl rfl) rfl (by simp) | exact wanted_zero (hr25.env.same rfl rfl rfl rfl) rfl (by simp [*])) rfl (callable 14 Try.func14) (Of_ok w25 _ T o.b (hT14.below hr25.keeps.toBelow) (by omega)) ?_
    rintro e26 w26 ⟨vO, rfl, hO26, hb26⟩
    have ht26 := HpRep_below ht25 hb26
    refine ⟨_, rfl, ht26, ?_⟩
    have hr26 := hr25.ret hb26 91 (.v vO) rfl _ (hr25.all.below hb26) (by simp) rfl
    refine seg cfg8_ok mixed PanicFree.body 1000 [] [(63, false), (69, false), (74, false), (80, false), (87, false), (99, false)] hr26.rebase (by first | trivial | exact HpRep.nil | assumption) (by kernel_rfl) fun s_ hs_ => ?_
    simp (maxSteps := 10000000) [SX.vc, SX.stop, SX.contS, SX.contB, SX.contW, SX.contR, SX.contD, SX.sxStep, SX.stepPure, SX.stepNew, SX.stepStore, SX.stepKeep, SX.guardIx, SX.evOp, SX.opd, SX.opds, SX.optOpd, SX.look, SX.putS, SX.gobs, SX.AllP, SX.leave, SX.lookC, SX.lookB, SX.lookT, SX.lookN, SX.findK, SX.evBuiltin, SX.ints, SX.foldI, SX.evBin, SX.evInt, SX.evStr, SX.evEq, SX.arith, SX.evLoad, SX.shapeUp, SX.evFieldAddr, SX.evField, SX.evIndexAddr, SX.evIndex, SX.evFill, SX.evBuild, SX.szs, SX.cellsV, SX.evNew, SX.evStore, SX.spliceL, SX.SV.cells, SX.evConv, SX.evSlice, SX.bnd, SX.evNil, SX.evUn, SX.evPick, SX.pickOpd, SX.popTo, SX.cnd, SX.env0, SX.TD.isAgg, SX.TD.isIface, SX.tails, SX.NotAgg, SX.evLookup, SX.evConvH, SX.evPtrEq, SX.isCells, SX.thaw, SX.frz, SX.fixB, SX.rootIx, SX.Froz, SX.frzStep, SX.fork, Go.Value.cells, Go.undef, cfg8, tabC, tabS]
    refine ⟨by (unfold SX.Ob; first | trivial | omega | ((try simp only [SX.inK]); (try simp [SX.den, SX.IsU8, SX.AllP, *]); (try omega))), ?_⟩
    intro a27 w27 hr27' ht27
    have hr27 := hr26.unbase hr27'
    have hO27 := hO26.below hr27'.keeps.toBelow
    refine post_callD 27 [.ag [.v (.int .i64 T.last), .v (.int .i64 T.now), .v (.slice adT T.L.length cpT)], .v (.int .i64 o.b)] hr27 rfl (by first | exact wanted_none rfl | exact wanted_zero (hr27.env.same rfl rfl rfl rfl) rfl (by simp) | exact wanted_zero (hr27.env.same rfl rfl rfl rfl) rfl (by simp [*])) rfl (callable 27 Try.func27) (rOf_ok w27 _ T o.b (hT14.below hr27.keeps.toBelow) (by omega)) ?_
    rintro e28 w28 ⟨vQ, rfl, hQ28, hb28⟩
    have ht28 := HpRep_below ht27 hb28
    refine ⟨_, rfl, ht28, ?_⟩
    have hr28 := hr27.ret hb28 95 (.v vQ) rfl _ (hr27.all.below hb28) (by simp) rfl
    have hO28 := hO27.below hb28
    refine seg cfg8_ok mixed PanicFree.body 1000 [] [(63, false), (69, false), (74, false), (80, false), (87, false), (99, false)] hr28.rebase (by first | trivial | exact HpRep.nil | assumption) (by kernel_rfl) fun s_ hs_ => ?_
    simp (maxSteps := 10000000) [SX.vc, SX.stop, SX.contS, SX.contB, SX.contW, SX.contR, SX.contD, SX.sxStep, SX.stepPure, SX.stepNew, SX.stepStore, SX.stepKeep, SX.guardIx, SX.evOp, SX.opd, SX.opds, SX.optOpd, SX.look, SX.putS, SX.gobs, SX.AllP, SX.leave, SX.lookC, SX.lookB, SX.lookT, SX.lookN, SX.findK, SX.evBuiltin, SX.ints, SX.foldI, SX.evBin, SX.evInt, SX.evStr, SX.evEq, SX.arith, SX.evLoad, SX.shapeUp, SX.evFieldAddr, SX.evField, SX.evIndexAddr, SX.evIndex, SX.evFill, SX.evBuild, SX.szs, SX.cellsV, SX.evNew, SX.evStore, SX.spliceL, SX.SV.cells, SX.evConv, SX.evSlice, SX.bnd, SX.evNil, SX.evUn, SX.evPick, SX.pickOpd, SX.popTo, SX.cnd, SX.env0, SX.TD.isAgg, SX.TD.isIface, SX.tails, SX.NotAgg, SX.evLookup, SX.evConvH, SX.evPtrEq, SX.isCells, SX.thaw, SX.frz, SX.fixB, SX.rootIx, SX.Froz, SX.frzStep, SX.fork, Go.Value.cells, Go.undef, cfg8, tabC, tabS]
    refine ⟨by (unfold SX.Ob; first | trivial | omega | ((try simp only [SX.inK]); (try simp [SX.den, SX.IsU8, SX.AllP, *]); (try omega))), ?_⟩
    intro a29 w29 hr29' ht29
    have hr29 := hr28.unbase hr29'
    have hO29 := hO28.below hr29'.keeps.toBelow
    have hQ29 := hQ28.below hr29'.keeps.toBelow
    refine post_callD 26 [.v vO, .v vQ] hr29 rfl (by first | exact wanted_none rfl | exact wanted_zero (hr29.env.same rfl rfl rfl rfl) rfl (by simp) | exact wanted_zero (hr29.env.same rfl rfl rfl rfl) rfl (by simp [*])) rfl (callable 26 Try.func26) (rints_ok w29 _ _ (ofL T o.b) (ofL T o.b) hO29.rd hQ29.rd (by omega)) ?_
    rintro e30 w30 ⟨rfl, hb30⟩
    have ht30 := HpRep_below ht29 hb30
    refine ⟨_, rfl, ht30, ?_⟩
    have hr30 := hr29.ret hb30 96 (.v (.bool (decide (ofL T o.b = ofL T o.b)))) rfl _ (hr29.all.below hb30) (by simp) rfl
    refine seg cfg8_ok mixed PanicFree.body 1000 [] [(63, false), (69, false), (74, false), (80, false), (87, false), (99, false)] hr30 (by first | trivial | exact HpRep.nil | assumption) (by kernel_rfl) fun s_ hs_ => ?_
    simp (maxSteps := 10000000) [SX.vc, SX.stop, SX.contS, SX.contB, SX.contW, SX.contR, SX.contD, SX.sxStep, SX.stepPure, SX.stepNew, SX.stepStore, SX.stepKeep, SX.guardIx, SX.evOp, SX.opd, SX.opds, SX.optOpd, SX.look, SX.putS, SX.gobs, SX.AllP, SX.leave, SX.lookC, SX.lookB, SX.lookT, SX.lookN, SX.findK, SX.evBuiltin, SX.ints, SX.foldI, SX.evBin, SX.evInt, SX.evStr, SX.evEq, SX.arith, SX.evLoad, SX.shapeUp, SX.evFieldAddr, SX.evField, SX.evIndexAddr, SX.evIndex, SX.evFill, SX.evBuild, SX.szs, SX.cellsV, SX.evNew, SX.evStore, SX.spliceL, SX.SV.cells, SX.evConv, SX.evSlice, SX.bnd, SX.evNil, SX.evUn, SX.evPick, SX.pickOpd, SX.popTo, SX.cnd, SX.env0, SX.TD.isAgg, SX.TD.isIface, SX.tails, SX.NotAgg, SX.evLookup, SX.evConvH, SX.evPtrEq, SX.isCells, SX.thaw, SX.frz, SX.fixB, SX.rootIx, SX.Froz, SX.frzStep, SX.fork, Go.Value.cells, Go.undef, cfg8, tabC, tabS]
    refine ⟨by (unfold SX.Ob; first | trivial | omega | ((try simp only [SX.inK]); (try simp [SX.den, SX.IsU8, SX.AllP, *]); (try omega))), ?_⟩
    intro a31 w31 hr31 ht31
    refine post_callD 12 [.ag [.v (.int .i64 T.last), .v (.int .i64 T.now), .v (.slice adT T.L.length cpT)], .v (.slice adk K.length cpk)] hr31 rfl (by first | exact wanted_none rfl | exact wanted_zero (hr31.env.same rfl rfl rfl rfl) rfl (by simp) | exact wanted_zero (hr31.env.same rfl rfl rfl rfl) rfl (by simp [*])) rfl (callable 12 Try.func12) (Next_ok w31 _ _ T K (hT14.below hr31.keeps.toBelow) (by omega) (hK14.below hr31.keeps.toBelow) (by omega)) ?_
    rintro e32 w32 ⟨n1, rfl, hn1, hb32⟩
    have ht32 := HpRep_below ht31 hb32
    refine ⟨_, rfl, ht32, ?_⟩
    have hr32 := hr31.ret hb32 102 (.v (.int .i64 n1)) rfl _ (hr31.all.below hb32) (by simp) rfl
    refine seg cfg8_ok mixed PanicFree.body 1000 [] [(63, false), (69, false), (74, false), (80, false), (87, false), (99, false)] hr32 (by first | trivial | exact HpRep.nil | assumption) (by kernel_rfl) fun s_ hs_ => ?_
    simp (maxSteps := 10000000) [SX.vc, SX.stop, SX.contS, SX.contB, SX.contW, SX.contR, SX.contD, SX.sxStep, SX.stepPure, SX.stepNew, SX.stepStore, SX.stepKeep, SX.guardIx, SX.evOp, SX.opd, SX.opds, SX.optOpd, SX.look, SX.putS, SX.gobs, SX.AllP, SX.leave, SX.lookC, SX.lookB, SX.lookT, SX.lookN, SX.findK, SX.evBuiltin, SX.ints, SX.foldI, SX.evBin, SX.evInt, SX.evStr, SX.evEq, SX.arith, SX.evLoad, SX.shapeUp, SX.evFieldAddr, SX.evField, SX.evIndexAddr, SX.evIndex, SX.evFill, SX.evBuild, SX.szs, SX.cellsV, SX.evNew, SX.evStore, SX.spliceL, SX.SV.cells, SX.evConv, SX.evSlice, SX.bnd, SX.evNil, SX.evUn, SX.evPick, SX.pickOpd, SX.popTo, SX.cnd, SX.env0, SX.TD.isAgg, SX.TD.isIface, SX.tails, SX.NotAgg, SX.evLookup, SX.evConvH, SX.evPtrEq, SX.isCells, SX.thaw, SX.frz, SX.fixB, SX.rootIx, SX.Froz, SX.frzStep, SX.fork, Go.Value.cells, Go.undef, cfg8, tabC, tabS]
    refine ⟨by (unfold SX.Ob; first | trivial | omega | ((try simp only [SX.inK]); (try simp [SX.den, SX.IsU8, SX.AllP, *]); (try omega))), ?_⟩
    intro a33 w33 hr33 ht33
    refine post_callD 28 [.ag [.v (.int .i64 T.last), .v (.int .i64 T.now), .v (.slice adT T.L.length cpT)], .v (.slice adk K.length cpk)] hr33 rfl (by first | exact wanted_none rfl | exact wanted_zero (hr33.env.same rfl rfl rfl rfl) rfl (by simp) | exact wanted_zero (hr33.env.same rfl rfl rfl rfl) rfl (by simp [*])) rfl (callable 28 Try.func28) (rNext_ok w33 _ _ T K (hT14.below hr33.keeps.toBelow) (by omega) (hK14.below hr33.keeps.toBelow) (by omega)) ?_
    rintro e34 w34 ⟨n2, rfl, hn2, hb34⟩
    have ht34 := HpRep_below ht33 hb34
    refine ⟨_, rfl, ht34, ?_⟩
    have hr34 := hr33.ret hb34 105 (.v (.int .i64 n2)) rfl _ (hr33.all.below hb34) (by simp) rfl
    obtain rfl : n1 = n2 := least_uniq (F := someL T (nextP K)) hn1 hn2
    refine seg cfg8_ok mixed PanicFree.body 1000 [false] [(63, false), (69, false), (74, false), (80, false), (87, false), (99, false)] hr34 (by first | trivial | exact HpRep.nil | assumption) (by kernel_rfl) fun s_ hs_ => ?_
    simp (maxSteps := 10000000) [SX.vc, SX.stop, SX.contS, SX.contB, SX.contW, SX.contR, SX.contD, SX.sxStep, SX.stepPure, SX.stepNew, SX.stepStore, SX.stepKeep, SX.guardIx, SX.evOp, SX.opd, SX.opds, SX.optOpd, SX.look, SX.putS, SX.gobs, SX.AllP, SX.leave, SX.lookC, SX.lookB, SX.lookT, SX.lookN, SX.findK, SX.evBuiltin, SX.ints, SX.foldI, SX.evBin, SX.evInt, SX.evStr, SX.evEq, SX.arith, SX.evLoad, SX.shapeUp, SX.evFieldAddr, SX.evField, SX.evIndexAddr, SX.evIndex, SX.evFill, SX.evBuild, SX.szs, SX.cellsV, SX.evNew, SX.evStore, SX.spliceL, SX.SV.cells, SX.evConv, SX.evSlice, SX.bnd, SX.evNil, SX.evUn, SX.evPick, SX.pickOpd, SX.popTo, SX.cnd, SX.env0, SX.TD.isAgg, SX.TD.isIface, SX.tails, SX.NotAgg, SX.evLookup, SX.evConvH, SX.evPtrEq, SX.isCells, SX.thaw, SX.frz, SX.fixB, SX.rootIx, SX.Froz, SX.frzStep, SX.fork, Go.Value.cells, Go.undef, cfg8, tabC, tabS]
    refine ⟨by (unfold SX.Ob; first | trivial | omega | ((try simp only [SX.inK]); (try simp [SX.den, SX.IsU8, SX.AllP, *]); (try omega))), ?_⟩
    intro a35 w35 hr35 _
    have hb35 := hr35.keeps.toBelow
    have h36 := hr14b.unbase hr35
    have hT35 := hT14.below hb35
    have hU35 := hU14.below hb35
    have h37 := h36.see _ (h36.all.mut1 (show (frame0 w).B ≤ s3 from hs3))
    by_cases hE : bodyE T o = 0
    · have hbb := body_bounds hE ha hTn
      refine seg cfg8_ok mixed PanicFree.body 1000 [true] [] h37.rebase (by first | trivial | exact HpRep.nil | assumption) (by kernel_rfl) fun s_ hs_ => ?_
      simp (maxSteps := 10000000) [SX.vc, SX.stop, SX.contS, SX.contB, SX.contW, SX.contR, SX.contD, SX.sxStep, SX.stepPure, SX.stepNew, SX.stepStore, SX.stepKeep, SX.guardIx, SX.evOp, SX.opd, SX.opds, SX.optOpd, SX.look, SX.putS, SX.gobs, SX.AllP, SX.leave, SX.lookC, SX.lookB, SX.lookT, SX.lookN, SX.findK, SX.evBuiltin, SX.ints, SX.foldI, SX.evBin, SX.evInt, SX.evStr, SX.evEq, SX.arith, SX.evLoad, SX.shapeUp, SX.evFieldAddr, SX.evField, SX.evIndexAddr, SX.evIndex, SX.evFill, SX.evBuild, SX.szs, SX.cellsV, SX.evNew, SX.evStore, SX.spliceL, SX.SV.cells, SX.evConv, SX.evSlice, SX.bnd, SX.evNil, SX.evUn, SX.evPick, SX.pickOpd, SX.popTo, SX.cnd, SX.env0, SX.TD.isAgg, SX.TD.isIface, SX.tails, SX.NotAgg, SX.evLookup, SX.evConvH, SX.evPtrEq, SX.isCells, SX.thaw, SX.frz, SX.fixB, SX.rootIx, SX.Froz, SX.frzStep, SX.fork, Go.Value.cells, Go.undef, cfg8, tabC, tabS, hE]
      refine ⟨by (unfold SX.Ob; first | trivial | omega | ((try simp only [SX.inK]); (try simp [SX.den, SX.IsU8, SX.AllP, *]); (try omega))), ?_⟩
      intro a38 w38 hr38' _
      have hr38 := h37.unbase hr38'
      exact post_rnd (G.length - (k + 1)) (by omega) ⟨k + 1, bodyT T o, adU, cpU, rfl, hlt, by omega, by omega, hbb.2, hU35.keep hr38'.keeps (by simp [frameAt, mutB]), hr38.re (by simp [envTo, SX.look, den]) (by have h := hr38.all.take 1; simp only [List.take_succ_cons, List.take_zero] at h; simpa only [tabS] using h) rfl rfl⟩
    · refine seg cfg8_ok mixed PanicFree.body 1000 [false] [] h37.rebase (by first | trivial | exact HpRep.nil | assumption) (by kernel_rfl) fun s_ hs_ => ?_
      simp (maxSteps := 10000000) [SX.vc, SX.stop, SX.contS, SX.contB, SX.contW, SX.contR, SX.contD, SX.sxStep, SX.stepPure, SX.stepNew, SX.stepStore, SX.stepKeep, SX.guardIx, SX.evOp, SX.opd, SX.opds, SX.optOpd, SX.look, SX.putS, SX.gobs, SX.AllP, SX.leave, SX.lookC, SX.lookB, SX.lookT, SX.lookN, SX.findK, SX.evBuiltin, SX.ints, SX.foldI, SX.evBin, SX.evInt, SX.evStr, SX.evEq, SX.arith, SX.evLoad, SX.shapeUp, SX.evFieldAddr, SX.evField, SX.evIndexAddr, SX.evIndex, SX.evFill, SX.evBuild, SX.szs, SX.cellsV, SX.evNew, SX.evStore, SX.spliceL, SX.SV.cells, SX.evConv, SX.evSlice, SX.bnd, SX.evNil, SX.evUn, SX.evPick, SX.pickOpd, SX.popTo, SX.cnd, SX.env0, SX.TD.isAgg, SX.TD.isIface, SX.tails, SX.NotAgg, SX.evLookup, SX.evConvH, SX.evPtrEq, SX.isCells, SX.thaw, SX.frz, SX.fixB, SX.rootIx, SX.Froz, SX.frzStep, SX.fork, Go.Value.cells, Go.undef, cfg8, tabC, tabS, hE]
      refine ⟨by (unfold SX.Ob; first | trivial | omega | ((try simp only [SX.inK]); (try simp [SX.den, SX.IsU8, SX.AllP, *]); (try omega))), ?_⟩
      intro a38 w38 hr38' _
      have hr38 := h37.unbase hr38'
      exact post_rnd (G.length - (k + 1)) (by omega) ⟨k + 1, T, adT, cpT, rfl, hlt, by omega, by omega, hTn, hT35.keep hr38'.keeps (by simp [frameAt, mutB]), hr38.re (by simp [envTo, SX.look, den]) (by have h := hr38.all.take 1; simp only [List.take_succ_cons, List.take_zero] at h; simpa only [tabS] using h) rfl rfl⟩

end Go.Proofs
