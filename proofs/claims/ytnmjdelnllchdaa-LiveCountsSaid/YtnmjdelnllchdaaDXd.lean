/- Extents: those that have some blocks, cut to them. -/
import Derived.Test.YtnmjdelnllchdaaDXc
namespace Go.Proofs
set_option linter.unusedVariables false
set_option linter.unusedSimpArgs false
set_option linter.unusedSectionVars false
open Go Go.SX Go.RowKit

def clipE (lba n : Int) (e : Ext) : Ext := uptoE (fromE e lba) (lba + n)
def partL (L : List Ext) (lba n : Int) (i k : Nat) : List Ext := ((L.drop i).take (k - i)).map (clipE lba n)
/-- i and k are where the extents of some blocks begin and end. -/
def PartIK (L : List Ext) (lba n : Int) (i k : Nat) : Prop := FirstI L lba i ∧ i ≤ k ∧ k ≤ L.length ∧ (∀ j, i ≤ j → j < k → (nth ext0 L j).lba < lba + n) ∧ (k < L.length → lba + n ≤ (nth ext0 L k).lba)

theorem Blocks.sm {lba n : Int} (h : Blocks lba n) : Sm lba ∧ Sm n ∧ Sm (lba + n) := by
  unfold Blocks at h
  unfold Sm
  omega
theorem fromE_sm {e : Ext} {lba n : Int} (h : May e) (hb : Blocks lba n) : SmE (fromE e lba) := by
  unfold May at h
  unfold Blocks at hb
  unfold fromE
  split
  · refine ⟨?_, ?_, ?_⟩ <;> unfold Sm <;> simp only
    · omega
    · omega
    · split <;> omega
  · refine ⟨?_, ?_, ?_⟩ <;> unfold Sm <;> omega

theorem partL_succ {L : List Ext} {lba n : Int} {i k : Nat} (hik : i ≤ k) (hk : k < L.length) : partL L lba n i (k + 1) = partL L lba n i k ++ [clipE lba n (nth ext0 L k)] := by
  unfold partL
  have e : k + 1 - i = (k - i) + 1 := by omega
  rw [e, take_nth (d := ext0) (by simp; omega), List.map_append, List.map_singleton]
  congr 3
  unfold nth
  rw [List.getD_eq_getElem?_getD, List.getElem?_drop, List.getD_eq_getElem?_getD]
  congr 2
  omega
theorem partL_length {L : List Ext} {lba n : Int} {i k : Nat} (hk : k ≤ L.length) : (partL L lba n i k).length = k - i := by simp [partL]; omega

def PLoop (w : World) (v : Value) (L : List Ext) (lba n : Int) (i : Nat) (m : Nat) (a : Act) (w' : World) : Prop :=
  ∃ (k : Nat) (v' : Value), m = L.length - k ∧ i ≤ k ∧ k ≤ L.length ∧ (∀ j, i ≤ j → j < k → (nth ext0 L j).lba < lba + n) ∧ OwE (fun x => w.heap.size ≤ x) w' v' (partL L lba n i k) ∧
    RepX (frame0 w) ⟨[(6, 0, .v v'), (7, 0, .v (.int .i64 i)), (8, 0, .v (.int .i64 k)), (0, 0, .v v), (1, 0, .v (.int .i64 lba)), (2, 0, .v (.int .i64 n))], [], 0, 0, 46, [], [], []⟩ a w'

def PartPost (w : World) (L : List Ext) (lba n : Int) (e : Ending) (w' : World) : Prop :=
  ∃ (i k : Nat) (v' : Value), e = .returned (den (.tu [.v v', .v (.int .i64 i), .v (.int .i64 k)])) ∧ PartIK L lba n i k ∧ OwE (fun x => w.heap.size ≤ x) w' v' (partL L lba n i k) ∧ Below w.heap.size w w'

set_option maxRecDepth 100000 in
set_option maxHeartbeats 8000000 in
theorem part_ok {P : Nat → Prop} (w : World) (v : Value) (L : List Ext) (lba n : Int) (hL : RdE P w v L) (hC : Chk L) (hB : Blocks lba n) (hn : L.length ≤ 1000000) : Calls Try.prog 40 (denL [.v v, .v (.int .i64 lba), .v (.int .i64 n)]).toArray w (PartPost w L lba n) := by
  obtain ⟨ad, cp, rfl⟩ := hL.slice
  obtain ⟨sm1, sm2, sm3⟩ := hB.sm
  have hs1 := sm1
  have hs2 := sm2
  have hs3 := sm3
  unfold Sm at hs1 hs2 hs3
  refine enter (F := frame0 w) Try.func40 rfl [.v (.slice ad L.length cp), .v (.int .i64 lba), .v (.int .i64 n)] [] (by simp [Try.f40]) trivial (keeps0 w) fun a hr => ?_
  refine seg cfg40_ok mixed PanicFree.body 1000 [] [] hr (by first | trivial | exact HpRep.nil | assumption) (by kernel_rfl) fun s_ hs_ => ?_
  simp (maxSteps := 10000000) [SX.vc, SX.stop, SX.contS, SX.contB, SX.contW, SX.contR, SX.contD, SX.sxStep, SX.stepPure, SX.stepNew, SX.stepStore, SX.stepKeep, SX.guardIx, SX.evOp, SX.opd, SX.opds, SX.optOpd, SX.look, SX.putS, SX.gobs, SX.AllP, SX.leave, SX.lookC, SX.lookB, SX.lookT, SX.lookN, SX.findK, SX.evBuiltin, SX.ints, SX.foldI, SX.evBin, SX.evInt, SX.evStr, SX.evEq, SX.arith, SX.evLoad, SX.shapeUp, SX.evFieldAddr, SX.evField, SX.evIndexAddr, SX.evIndex, SX.evFill, SX.evBuild, SX.szs, SX.cellsV, SX.evNew, SX.evStore, SX.spliceL, SX.SV.cells, SX.evConv, SX.evSlice, SX.bnd, SX.evNil, SX.evUn, SX.evPick, SX.pickOpd, SX.popTo, SX.cnd, SX.env0, SX.TD.isAgg, SX.TD.isIface, SX.tails, SX.NotAgg, SX.evLookup, SX.evConvH, SX.evPtrEq, SX.isCells, SX.thaw, SX.frz, SX.fixB, SX.rootIx, SX.Froz, SX.frzStep, SX.fork, Go.Value.cells, Go.undef, cfg40, Try.f40]
  refine ⟨by (unfold SX.Ob; first | trivial | omega | ((try simp only [SX.inK]); (try simp [SX.den, SX.IsU8, SX.AllP, *]); (try omega))), ?_⟩
  intro a1 w1 hr1 _
  refine post_call 57 [.v (.slice ad L.length cp), .v (.int .i64 lba)] hr1 (by first | exact wanted_none rfl | exact wanted_zero (hr1.env.same rfl rfl rfl rfl) rfl (by simp) | exact wanted_zero (hr1.env.same rfl rfl rfl rfl) rfl (by simp [*])) rfl (callable 57 Try.func57) (first_ok w1 _ L lba (hL.below hr1.keeps.toBelow) hC hn) ?_
  rintro e2 w2 ⟨i, rfl, hi, hb2⟩
  refine ⟨_, rfl, ?_⟩
  have h2 := hr1.ret hb2 11 (.v (.int .i64 i)) rfl _ (hr1.all.below hb2) (by simp) rfl
  refine seg cfg40_ok mixed PanicFree.body 1000 [] [] h2 (by first | trivial | exact HpRep.nil | assumption) (by kernel_rfl) fun s_ hs_ => ?_
  simp (maxSteps := 10000000) [SX.vc, SX.stop, SX.contS, SX.contB, SX.contW, SX.contR, SX.contD, SX.sxStep, SX.stepPure, SX.stepNew, SX.stepStore, SX.stepKeep, SX.guardIx, SX.evOp, SX.opd, SX.opds, SX.optOpd, SX.look, SX.putS, SX.gobs, SX.AllP, SX.leave, SX.lookC, SX.lookB, SX.lookT, SX.lookN, SX.findK, SX.evBuiltin, SX.ints, SX.foldI, SX.evBin, SX.evInt, SX.evStr, SX.evEq, SX.arith, SX.evLoad, SX.shapeUp, SX.evFieldAddr, SX.evField, SX.evIndexAddr, SX.evIndex, SX.evFill, SX.evBuild, SX.szs, SX.cellsV, SX.evNew, SX.evStore, SX.spliceL, SX.SV.cells, SX.evConv, SX.evSlice, SX.bnd, SX.evNil, SX.evUn, SX.evPick, SX.pickOpd, SX.popTo, SX.cnd, SX.env0, SX.TD.isAgg, SX.TD.isIface, SX.tails, SX.NotAgg, SX.evLookup, SX.evConvH, SX.evPtrEq, SX.isCells, SX.thaw, SX.frz, SX.fixB, SX.rootIx, SX.Froz, SX.frzStep, SX.fork, Go.Value.cells, Go.undef, cfg40]
  refine ⟨by (unfold SX.Ob; first | trivial | omega | ((try simp only [SX.inK]); (try simp [SX.den, SX.IsU8, SX.AllP, *]); (try omega))), ?_⟩
  intro a3 w3 hr3 _
  refine post_loop (PLoop w (.slice ad L.length cp) L lba n i) (L.length - i) ⟨i, .slice none 0 0, rfl, by omega, hi.1, by omega, by simp [partL]; exact OwS.nil, hr3.re (by simp [envTo, SX.look]) trivial rfl rfl⟩ ?_
  rintro m a4 w4 ⟨k, v', rfl, hik, hk, hlow, hO, hr4⟩
  by_cases hlt : k < L.length
  · obtain ⟨b, o0, cap, u, fz, hP, hv, hrep⟩ := hL.opn hlt
    cases hv
    have hrep2 := SO.rep_same hrep (hr4.keeps.toBelow.block _ (SO.rep_lt hrep))
    obtain ⟨x, hx⟩ : ∃ x, nth ext0 L k = x := ⟨_, rfl⟩
    have h5 := (hr4.top 0 (.sl 0 b o0 0 L.length cp 5) rfl (by simp [den])).see _ (HpAll.one hrep2)
    have hM : May x := hx ▸ hC.mayN hlt
    by_cases hc : x.lba < lba + n
    · refine seg cfg40_ok mixed PanicFree.body 1000 [true] [(17, true)] h5.rebase (by first | trivial | exact HpRep.nil | assumption) (by kernel_rfl) fun s_ hs_ => ?_
      simp (maxSteps := 10000000) [SX.vc, SX.stop, SX.contS, SX.contB, SX.contW, SX.contR, SX.contD, SX.sxStep, SX.stepPure, SX.stepNew, SX.stepStore, SX.stepKeep, SX.guardIx, SX.evOp, SX.opd, SX.opds, SX.optOpd, SX.look, SX.putS, SX.gobs, SX.AllP, SX.leave, SX.lookC, SX.lookB, SX.lookT, SX.lookN, SX.findK, SX.evBuiltin, SX.ints, SX.foldI, SX.evBin, SX.evInt, SX.evStr, SX.evEq, SX.arith, SX.evLoad, SX.shapeUp, SX.evFieldAddr, SX.evField, SX.evIndexAddr, SX.evIndex, SX.evFill, SX.evBuild, SX.szs, SX.cellsV, SX.evNew, SX.evStore, SX.spliceL, SX.SV.cells, SX.evConv, SX.evSlice, SX.bnd, SX.evNil, SX.evUn, SX.evPick, SX.pickOpd, SX.popTo, SX.cnd, SX.env0, SX.TD.isAgg, SX.TD.isIface, SX.tails, SX.NotAgg, SX.evLookup, SX.evConvH, SX.evPtrEq, SX.isCells, SX.thaw, SX.frz, SX.fixB, SX.rootIx, SX.Froz, SX.frzStep, SX.fork, Go.Value.cells, Go.undef, cfg40, extC, hx, hlt]
      refine ⟨by (unfold SX.Ob; first | trivial | omega | ((try simp only [SX.inK]); (try simp [SX.den, SX.IsU8, SX.AllP, *]); (try omega))), ?_⟩
      intro a6 w6 hr6 _
      refine post_call 59 [.ag (extC x), .v (.int .i64 lba)] hr6 (by first | exact wanted_none rfl | exact wanted_zero (hr6.env.same rfl rfl rfl rfl) rfl (by simp) | exact wanted_zero (hr6.env.same rfl rfl rfl rfl) rfl (by simp [*])) rfl (callable 59 Try.func59) (from_ok w6 x lba hM.sm sm1) ?_
      rintro e7 w7 ⟨rfl, hb7⟩
      refine ⟨_, rfl, ?_⟩
      have h7 := hr6.ret hb7 36 (.ag (extC (fromE x lba))) rfl _ (hr6.all.below hb7) (by simp) rfl
      refine seg cfg40_ok mixed PanicFree.body 1000 [] [(17, true)] h7 (by first | trivial | exact HpRep.nil | assumption) (by kernel_rfl) fun s_ hs_ => ?_
      simp (maxSteps := 10000000) [SX.vc, SX.stop, SX.contS, SX.contB, SX.contW, SX.contR, SX.contD, SX.sxStep, SX.stepPure, SX.stepNew, SX.stepStore, SX.stepKeep, SX.guardIx, SX.evOp, SX.opd, SX.opds, SX.optOpd, SX.look, SX.putS, SX.gobs, SX.AllP, SX.leave, SX.lookC, SX.lookB, SX.lookT, SX.lookN, SX.findK, SX.evBuiltin, SX.ints, SX.foldI, SX.evBin, SX.evInt, SX.evStr, SX.evEq, SX.arith, SX.evLoad, SX.shapeUp, SX.evFieldAddr, SX.evField, SX.evIndexAddr, SX.evIndex, SX.evFill, SX.evBuild, SX.szs, SX.cellsV, SX.evNew, SX.evStore, SX.spliceL, SX.SV.cells, SX.evConv, SX.evSlice, SX.bnd, SX.evNil, SX.evUn, SX.evPick, SX.pickOpd, SX.popTo, SX.cnd, SX.env0, SX.TD.isAgg, SX.TD.isIface, SX.tails, SX.NotAgg, SX.evLookup, SX.evConvH, SX.evPtrEq, SX.isCells, SX.thaw, SX.frz, SX.fixB, SX.rootIx, SX.Froz, SX.frzStep, SX.fork, Go.Value.cells, Go.undef, cfg40]
      refine ⟨by (unfold SX.Ob; first | trivial | omega | ((try simp only [SX.inK]); (try simp [SX.den, SX.IsU8, SX.AllP, *]); (try omega))), ?_⟩
      intro a8 w8 hr8 _
      refine post_call 58 [.ag (extC (fromE x lba)), .v (.int .i64 (lba + n))] hr8 (by first | exact wanted_none rfl | exact wanted_zero (hr8.env.same rfl rfl rfl rfl) rfl (by simp) | exact wanted_zero (hr8.env.same rfl rfl rfl rfl) rfl (by simp [*])) rfl (callable 58 Try.func58) (upto_ok w8 (fromE x lba) (lba + n) (fromE_sm hM hB) sm3) ?_
      rintro e9 w9 ⟨rfl, hb9⟩
      refine ⟨_, rfl, ?_⟩
      have h9 := hr8.ret hb9 40 (.ag (extC (clipE lba n x))) rfl _ (hr8.all.below hb9) (by simp) rfl
      refine seg cfg40_ok mixed PanicFree.body 1000 [] [(17, true)] h9 (by first | trivial | exact HpRep.nil | assumption) (by kernel_rfl) fun sL hsL => ?_
      simp (maxSteps := 10000000) [SX.vc, SX.stop, SX.contS, SX.contB, SX.contW, SX.contR, SX.contD, SX.sxStep, SX.stepPure, SX.stepNew, SX.stepStore, SX.stepKeep, SX.guardIx, SX.evOp, SX.opd, SX.opds, SX.optOpd, SX.look, SX.putS, SX.gobs, SX.AllP, SX.leave, SX.lookC, SX.lookB, SX.lookT, SX.lookN, SX.findK, SX.evBuiltin, SX.ints, SX.foldI, SX.evBin, SX.evInt, SX.evStr, SX.evEq, SX.arith, SX.evLoad, SX.shapeUp, SX.evFieldAddr, SX.evField, SX.evIndexAddr, SX.evIndex, SX.evFill, SX.evBuild, SX.szs, SX.cellsV, SX.evNew, SX.evStore, SX.spliceL, SX.SV.cells, SX.evConv, SX.evSlice, SX.bnd, SX.evNil, SX.evUn, SX.evPick, SX.pickOpd, SX.popTo, SX.cnd, SX.env0, SX.TD.isAgg, SX.TD.isIface, SX.tails, SX.NotAgg, SX.evLookup, SX.evConvH, SX.evPtrEq, SX.isCells, SX.thaw, SX.frz, SX.fixB, SX.rootIx, SX.Froz, SX.frzStep, SX.fork, Go.Value.cells, Go.undef, cfg40, extC]
      refine ⟨by (unfold SX.Ob; first | trivial | omega | ((try simp only [SX.inK]); (try simp [SX.den, SX.IsU8, SX.AllP, *]); (try omega))), ?_⟩
      intro a10 w10 hr10' _
      have hr10 := h5.unbase hr10'
      have hO10 := hO.keep hr10'.keeps (by simp [frameAt, mutB])
      have z10 : w.heap.size ≤ w10.heap.size := hr10.keeps.size
      have hlen := partL_length (lba := lba) (n := n) (i := i) hk
      refine post_app (C := cfg40) cfg40_ok hr10 (by first | exact wanted_none rfl | exact wanted_zero (hr10.env.same rfl rfl rfl rfl) rfl (by simp)) rfl (by simp) rfl rfl rfl rfl rfl rfl rfl rfl rfl (by decide) (flatX _) (by (try simp only [List.length_append, List.length_cons, List.length_nil, List.length_map, List.length_take]); omega) (fun x hx => Nat.le_trans z10 hx) hO10 (RdS.lit (x := clipE lba n x) hr10.all.2.1.1 (by simp [extC])) [] (fun _ _ _ _ => trivial) (fun x hx => .inl hx) fun V11 a11 w11 B11 hO11 hB11 hk11 hr11 => ?_
      rw [← hx, ← partL_succ hik hlt] at hO11
      refine seg cfg40_ok mixed PanicFree.body 1000 [] [] hr11.rebase (by first | trivial | exact HpRep.nil | assumption) (by kernel_rfl) fun s_ hs_ => ?_
      simp (maxSteps := 10000000) [SX.vc, SX.stop, SX.contS, SX.contB, SX.contW, SX.contR, SX.contD, SX.sxStep, SX.stepPure, SX.stepNew, SX.stepStore, SX.stepKeep, SX.guardIx, SX.evOp, SX.opd, SX.opds, SX.optOpd, SX.look, SX.putS, SX.gobs, SX.AllP, SX.leave, SX.lookC, SX.lookB, SX.lookT, SX.lookN, SX.findK, SX.evBuiltin, SX.ints, SX.foldI, SX.evBin, SX.evInt, SX.evStr, SX.evEq, SX.arith, SX.evLoad, SX.shapeUp, SX.evFieldAddr, SX.evField, SX.evIndexAddr, SX.evIndex, SX.evFill, SX.evBuild, SX.szs, SX.cellsV, SX.evNew, SX.evStore, SX.spliceL, SX.SV.cells, SX.evConv, SX.evSlice, SX.bnd, SX.evNil, SX.evUn, SX.evPick, SX.pickOpd, SX.popTo, SX.cnd, SX.env0, SX.TD.isAgg, SX.TD.isIface, SX.tails, SX.NotAgg, SX.evLookup, SX.evConvH, SX.evPtrEq, SX.isCells, SX.thaw, SX.frz, SX.fixB, SX.rootIx, SX.Froz, SX.frzStep, SX.fork, Go.Value.cells, Go.undef, cfg40]
      refine ⟨by (unfold SX.Ob; first | trivial | omega | ((try simp only [SX.inK]); (try simp [SX.den, SX.IsU8, SX.AllP, *]); (try omega))), ?_⟩
      intro a12 w12 hr12' _
      have hr12 := hr11.unbase hr12'
      exact post_rnd (L.length - (k + 1)) (by omega) ⟨k + 1, V11, rfl, by omega, by omega, fun j h1 h2 => (by
        rcases Nat.lt_or_ge j k with h3 | h3
        · exact hlow j h1 h3
        · obtain rfl : j = k := by omega
          rw [hx]; exact hc), hO11.keep hr12'.keeps (by simp [frameAt, mutB]), hr12.re (by simp [envTo, SX.look, den]) trivial rfl rfl⟩
    · refine seg cfg40_ok mixed PanicFree.body 1000 [false] [(17, true)] h5.rebase (by first | trivial | exact HpRep.nil | assumption) (by kernel_rfl) fun s_ hs_ => ?_
      simp (maxSteps := 10000000) [SX.vc, SX.stop, SX.contS, SX.contB, SX.contW, SX.contR, SX.contD, SX.sxStep, SX.stepPure, SX.stepNew, SX.stepStore, SX.stepKeep, SX.guardIx, SX.evOp, SX.opd, SX.opds, SX.optOpd, SX.look, SX.putS, SX.gobs, SX.AllP, SX.leave, SX.lookC, SX.lookB, SX.lookT, SX.lookN, SX.findK, SX.evBuiltin, SX.ints, SX.foldI, SX.evBin, SX.evInt, SX.evStr, SX.evEq, SX.arith, SX.evLoad, SX.shapeUp, SX.evFieldAddr, SX.evField, SX.evIndexAddr, SX.evIndex, SX.evFill, SX.evBuild, SX.szs, SX.cellsV, SX.evNew, SX.evStore, SX.spliceL, SX.SV.cells, SX.evConv, SX.evSlice, SX.bnd, SX.evNil, SX.evUn, SX.evPick, SX.pickOpd, SX.popTo, SX.cnd, SX.env0, SX.TD.isAgg, SX.TD.isIface, SX.tails, SX.NotAgg, SX.evLookup, SX.evConvH, SX.evPtrEq, SX.isCells, SX.thaw, SX.frz, SX.fixB, SX.rootIx, SX.Froz, SX.frzStep, SX.fork, Go.Value.cells, Go.undef, cfg40, extC, hx, hlt]
      refine ⟨by (unfold SX.Ob; first | trivial | omega | ((try simp only [SX.inK]); (try simp [SX.den, SX.IsU8, SX.AllP, *]); (try omega))), ?_⟩
      intro a6 w6 hr6' _
      have hr6 := h5.unbase hr6'
      exact post_retn (end3 hr6 rfl rfl rfl rfl ⟨i, k, v', by simp [den, denL], ⟨hi, hik, hk, hlow, fun _ => by rw [hx]; omega⟩, hO.keep hr6'.keeps (by simp [frameAt, mutB]), hr6.keeps.toBelow⟩).1
  · refine seg cfg40_ok mixed PanicFree.body 1000 [false] [(17, false)] hr4.rebase (by first | trivial | exact HpRep.nil | assumption) (by kernel_rfl) fun s_ hs_ => ?_
    simp (maxSteps := 10000000) [SX.vc, SX.stop, SX.contS, SX.contB, SX.contW, SX.contR, SX.contD, SX.sxStep, SX.stepPure, SX.stepNew, SX.stepStore, SX.stepKeep, SX.guardIx, SX.evOp, SX.opd, SX.opds, SX.optOpd, SX.look, SX.putS, SX.gobs, SX.AllP, SX.leave, SX.lookC, SX.lookB, SX.lookT, SX.lookN, SX.findK, SX.evBuiltin, SX.ints, SX.foldI, SX.evBin, SX.evInt, SX.evStr, SX.evEq, SX.arith, SX.evLoad, SX.shapeUp, SX.evFieldAddr, SX.evField, SX.evIndexAddr, SX.evIndex, SX.evFill, SX.evBuild, SX.szs, SX.cellsV, SX.evNew, SX.evStore, SX.spliceL, SX.SV.cells, SX.evConv, SX.evSlice, SX.bnd, SX.evNil, SX.evUn, SX.evPick, SX.pickOpd, SX.popTo, SX.cnd, SX.env0, SX.TD.isAgg, SX.TD.isIface, SX.tails, SX.NotAgg, SX.evLookup, SX.evConvH, SX.evPtrEq, SX.isCells, SX.thaw, SX.frz, SX.fixB, SX.rootIx, SX.Froz, SX.frzStep, SX.fork, Go.Value.cells, Go.undef, cfg40, hlt]
    refine ⟨by (unfold SX.Ob; first | trivial | omega | ((try simp only [SX.inK]); (try simp [SX.den, SX.IsU8, SX.AllP, *]); (try omega))), ?_⟩
    intro a6 w6 hr6' _
    have hr6 := hr4.unbase hr6'
    exact post_retn (end3 hr6 rfl rfl rfl rfl ⟨i, k, v', by simp [den, denL], ⟨hi, hik, hk, hlow, fun h => absurd h hlt⟩, hO.keep hr6'.keeps (by simp [frameAt, mutB]), hr6.keeps.toBelow⟩).1
end Go.Proofs
