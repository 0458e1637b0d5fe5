/- Requests: DedupLast walked: its end. -/
import Derived.Test.YtffooiccklfhlaaNN
namespace Go.Proofs
set_option linter.unusedVariables false
set_option linter.unusedSimpArgs false
set_option linter.unusedSectionVars false
open Go Go.SX Go.RowKit

theorem tmod_bounds (x : Int) (k : Nat) (h : 0 < k) : -(k : Int) < x.tmod k ∧ x.tmod k < k :=
  ⟨Int.lt_tmod_of_pos x (by omega), Int.tmod_lt_of_pos x (by omega)⟩
theorem wrapped_idx (x : Int) (k : Nat) (h : 0 < k) : ∃ i : Nat, (x.tmod k + k).tmod k = i ∧ i < k := by
  have h1 := tmod_bounds x k h
  have h2 := tmod_bounds (x.tmod k + k) k h
  have h3 : 0 ≤ (x.tmod k + k).tmod k := Int.tmod_nonneg _ (by omega)
  exact ⟨((x.tmod k + k).tmod k).toNat, by omega, by omega⟩

structure LInv (L : List Sen) (n : Nat) : Prop where
  chk : ChkN (-1) L
  small : SmallN L
  five : FiveN L n

def LsLoop (w : World) (n : Nat) (others : List Int) (vo : Value) (m : Nat) (a : Act) (w' : World) : Prop :=
  ∃ (k : Nat) (L : List Sen) (v : Value), m = n - k ∧ k ≤ n ∧ LInv L k ∧ L.length ≤ 51 * k ∧ RdD (fun x => w.heap.size ≤ x) w' v L ∧
    RepX (frame0 w) ⟨[(31, 0, .v (.int .i64 k)), (30, 0, .v (.int .i64 n)), (0, 0, .v (.int .i64 n)), (1, 0, .v vo), (6, 0, .v v), (4, 0, .v (.bool false)), (5, 0, .v (.bool true))], [], 0, 0, 132, [], [], []⟩ a w'
def LsLoop2 (w : World) (n k : Nat) (others : List Int) (vo : Value) (m : Nat) (a : Act) (w' : World) : Prop :=
  ∃ (j : Nat) (L : List Sen) (v : Value), m = others.length - j ∧ j ≤ others.length ∧ LInv L (k + 1) ∧ L.length ≤ 51 * k + 1 + j ∧ RdD (fun x => w.heap.size ≤ x) w' v L ∧
    RepX (frame0 w) ⟨[(49, 0, .v (.int .i64 j)), (48, 0, .v (.int .i64 others.length)), (47, 0, .v vo), (7, 0, .v (.int .i64 k)), (31, 0, .v (.int .i64 k)), (30, 0, .v (.int .i64 n)), (0, 0, .v (.int .i64 n)), (1, 0, .v vo), (6, 0, .v v), (4, 0, .v (.bool false)), (5, 0, .v (.bool true))], [], 0, 0, 132, [], [], []⟩ a w'
def LsLoop3 (w : World) (n : Nat) (L : List Sen) (v : Value) (m : Nat) (a : Act) (w' : World) : Prop :=
  ∃ (k : Nat), m = n - k ∧ k ≤ n ∧ RdD (fun x => w.heap.size ≤ x) w' v L ∧
    RepX (frame0 w) ⟨[(73, 0, .v (.int .i64 k)), (72, 0, .v (.int .i64 n)), (0, 0, .v (.int .i64 n)), (6, 0, .v v), (4, 0, .v (.bool false)), (5, 0, .v (.bool true))], [], 0, 0, 132, [], [], []⟩ a w'

set_option maxRecDepth 100000 in
set_option maxHeartbeats 64000000 in
/-- DedupLast. -/
theorem last_ok (w : World) (x : Int) (v : Value) (others : List Int) (hO : RdI (fun x => x < w.heap.size) w v others) (hx : inK x) (hn : others.length ≤ 1000000000000000) : Calls Try.prog 5 (denL [.v (.int .i64 x), .v v]).toArray w (Ret w (.v (.bool true))) := by
  obtain ⟨ad, cp, rfl⟩ := hO.slice
  refine enter (F := frame0 w) Try.func5 rfl [.v (.int .i64 x), .v (.slice ad others.length cp)] [] (by simp [Try.f5]) trivial (keeps0 w) fun a hr => ?_
  refine seg cfg5_ok mixed PanicFree.body 1000 [] [] hr (by first | trivial | exact HpRep.nil | assumption) (by kernel_rfl) fun s_ hs_ => ?_
  simp (maxSteps := 10000000) [SX.vc, SX.stop, SX.contS, SX.contB, SX.contW, SX.contR, SX.contD, SX.sxStep, SX.stepPure, SX.stepNew, SX.stepStore, SX.stepKeep, SX.guardIx, SX.evOp, SX.opd, SX.opds, SX.optOpd, SX.look, SX.putS, SX.gobs, SX.AllP, SX.leave, SX.lookC, SX.lookB, SX.lookT, SX.lookN, SX.findK, SX.evBuiltin, SX.ints, SX.foldI, SX.evBin, SX.evInt, SX.evStr, SX.evEq, SX.arith, SX.evLoad, SX.shapeUp, SX.evFieldAddr, SX.evField, SX.evIndexAddr, SX.evIndex, SX.evFill, SX.evBuild, SX.szs, SX.cellsV, SX.evNew, SX.evStore, SX.spliceL, SX.SV.cells, SX.evConv, SX.evSlice, SX.bnd, SX.evNil, SX.evUn, SX.evPick, SX.pickOpd, SX.popTo, SX.cnd, SX.env0, SX.TD.isAgg, SX.TD.isIface, SX.tails, SX.NotAgg, SX.evLookup, SX.evConvH, SX.evPtrEq, SX.isCells, SX.thaw, SX.frz, SX.fixB, SX.rootIx, SX.Froz, SX.frzStep, SX.fork, Go.Value.cells, Go.undef, cfg5, Try.f5]
  refine ⟨by (unfold SX.Ob; first | trivial | omega | ((try simp only [SX.inK]); (try simp [SX.den, SX.IsU8, SX.AllP, *]); (try omega))), ?_⟩
  intro a1 w1 hr1 _
  refine post_call 7 [] hr1 (by first | exact wanted_none rfl | exact wanted_zero (hr1.env.same rfl rfl rfl rfl) rfl (by simp) | exact wanted_zero (hr1.env.same rfl rfl rfl rfl) rfl (by simp [*])) rfl (callable 7 Try.func7) (live_ok w1) ?_
  rintro e2 w2 ⟨rfl, hb2⟩
  refine ⟨_, rfl, ?_⟩
  have h2 := hr1.ret hb2 21 (.v (.bool true)) rfl _ (hr1.all.below hb2) (by simp) rfl
  by_cases hF : others.length ≤ 50
  rotate_left
  · have hF' : (50 : Int) < (others.length : Int) := by omega
    refine seg cfg5_ok mixed PanicFree.body 1000 [true] [] h2 (by first | trivial | exact HpRep.nil | assumption) (by kernel_rfl) fun s_ hs_ => ?_
    simp (maxSteps := 10000000) [SX.vc, SX.stop, SX.contS, SX.contB, SX.contW, SX.contR, SX.contD, SX.sxStep, SX.stepPure, SX.stepNew, SX.stepStore, SX.stepKeep, SX.guardIx, SX.evOp, SX.opd, SX.opds, SX.optOpd, SX.look, SX.putS, SX.gobs, SX.AllP, SX.leave, SX.lookC, SX.lookB, SX.lookT, SX.lookN, SX.findK, SX.evBuiltin, SX.ints, SX.foldI, SX.evBin, SX.evInt, SX.evStr, SX.evEq, SX.arith, SX.evLoad, SX.shapeUp, SX.evFieldAddr, SX.evField, SX.evIndexAddr, SX.evIndex, SX.evFill, SX.evBuild, SX.szs, SX.cellsV, SX.evNew, SX.evStore, SX.spliceL, SX.SV.cells, SX.evConv, SX.evSlice, SX.bnd, SX.evNil, SX.evUn, SX.evPick, SX.pickOpd, SX.popTo, SX.cnd, SX.env0, SX.TD.isAgg, SX.TD.isIface, SX.tails, SX.NotAgg, SX.evLookup, SX.evConvH, SX.evPtrEq, SX.isCells, SX.thaw, SX.frz, SX.fixB, SX.rootIx, SX.Froz, SX.frzStep, SX.fork, Go.Value.cells, Go.undef, cfg5, hF']
    refine ⟨by (unfold SX.Ob; first | trivial | omega | ((try simp only [SX.inK]); (try simp [SX.den, SX.IsU8, SX.AllP, *]); (try omega))), ?_⟩
    intro a3 w3 hr3 _
    exact post_retn (end1 hr3 rfl rfl ⟨rfl, hr3.keeps.toBelow⟩).1
  have hF' : ¬ (50 : Int) < (others.length : Int) := by omega
  obtain ⟨hx1, hx2⟩ := tmod_bounds x 40 (by omega)
  obtain ⟨n, hn40, hn4⟩ := wrapped_idx x 40 (by omega)
  simp only [Int.cast_ofNat_Int] at hx1 hx2 hn40
  refine seg cfg5_ok mixed PanicFree.body 1000 [false] [] h2 (by first | trivial | exact HpRep.nil | assumption) (by kernel_rfl) fun s_ hs_ => ?_
  simp (maxSteps := 10000000) [SX.vc, SX.stop, SX.contS, SX.contB, SX.contW, SX.contR, SX.contD, SX.sxStep, SX.stepPure, SX.stepNew, SX.stepStore, SX.stepKeep, SX.guardIx, SX.evOp, SX.opd, SX.opds, SX.optOpd, SX.look, SX.putS, SX.gobs, SX.AllP, SX.leave, SX.lookC, SX.lookB, SX.lookT, SX.lookN, SX.findK, SX.evBuiltin, SX.ints, SX.foldI, SX.evBin, SX.evInt, SX.evStr, SX.evEq, SX.arith, SX.evLoad, SX.shapeUp, SX.evFieldAddr, SX.evField, SX.evIndexAddr, SX.evIndex, SX.evFill, SX.evBuild, SX.szs, SX.cellsV, SX.evNew, SX.evStore, SX.spliceL, SX.SV.cells, SX.evConv, SX.evSlice, SX.bnd, SX.evNil, SX.evUn, SX.evPick, SX.pickOpd, SX.popTo, SX.cnd, SX.env0, SX.TD.isAgg, SX.TD.isIface, SX.tails, SX.NotAgg, SX.evLookup, SX.evConvH, SX.evPtrEq, SX.isCells, SX.thaw, SX.frz, SX.fixB, SX.rootIx, SX.Froz, SX.frzStep, SX.fork, Go.Value.cells, Go.undef, cfg5, hF', hn40]
  refine ⟨by (unfold SX.Ob; first | trivial | omega | ((try simp only [SX.inK]); (try simp [SX.den, SX.IsU8, SX.AllP, *]); (try omega))), ?_⟩
  intro a3 w3 hr3 _
  refine post_loop (LsLoop w n others (.slice ad others.length cp)) n ⟨0, [], .slice none 0 0, rfl, by omega, ⟨by simp [ChkN], smallN_nil, ⟨fun _ => rfl, rfl, rfl⟩⟩, by simp, RdD.nil, hr3.re (by simp [envTo, SX.look]) trivial rfl rfl⟩ ?_
  clear hr hr1 h2 hr3
  rintro m a6 w6 ⟨k, L, v, rfl, hk, hI, hlen, hR, hr6⟩
  by_cases hlt : k < n
  · have hk40 : k < 40 := by omega
    have hK0 : askK L 5 (2 * (k : Int)) = 0 := by rw [(hI.five.ask hI.chk k).1, if_neg (by omega), if_neg (by omega)]
    have hE0 : doneE L 5 (2 * (k : Int)) = 0 := (doneE_new (by omega)).2 hK0
    refine seg cfg5_ok mixed PanicFree.body 1000 [true] [] hr6.rebase (by first | trivial | exact HpRep.nil | assumption) (by kernel_rfl) fun s_ hs_ => ?_
    simp (maxSteps := 10000000) [SX.vc, SX.stop, SX.contS, SX.contB, SX.contW, SX.contR, SX.contD, SX.sxStep, SX.stepPure, SX.stepNew, SX.stepStore, SX.stepKeep, SX.guardIx, SX.evOp, SX.opd, SX.opds, SX.optOpd, SX.look, SX.putS, SX.gobs, SX.AllP, SX.leave, SX.lookC, SX.lookB, SX.lookT, SX.lookN, SX.findK, SX.evBuiltin, SX.ints, SX.foldI, SX.evBin, SX.evInt, SX.evStr, SX.evEq, SX.arith, SX.evLoad, SX.shapeUp, SX.evFieldAddr, SX.evField, SX.evIndexAddr, SX.evIndex, SX.evFill, SX.evBuild, SX.szs, SX.cellsV, SX.evNew, SX.evStore, SX.spliceL, SX.SV.cells, SX.evConv, SX.evSlice, SX.bnd, SX.evNil, SX.evUn, SX.evPick, SX.pickOpd, SX.popTo, SX.cnd, SX.env0, SX.TD.isAgg, SX.TD.isIface, SX.tails, SX.NotAgg, SX.evLookup, SX.evConvH, SX.evPtrEq, SX.isCells, SX.thaw, SX.frz, SX.fixB, SX.rootIx, SX.Froz, SX.frzStep, SX.fork, Go.Value.cells, Go.undef, cfg5, hlt]
    refine ⟨by (unfold SX.Ob; first | trivial | omega | ((try simp only [SX.inK]); (try simp [SX.den, SX.IsU8, SX.AllP, *]); (try omega))), ?_⟩
    intro a7 w7 hr7' _
    have hr7 := hr6.unbase hr7'
    have z7 : w.heap.size ≤ w7.heap.size := hr7.keeps.size
    have hR7 := hR.keep hr7'.keeps (by simp [frameAt, mutB])
    refine post_call 9 [.v v, .v (.int .i64 5), .v (.int .i64 (2 * k)), .ag (mgC (mgK (100 + k)))] hr7 (by first | exact wanted_none rfl | exact wanted_zero (hr7.env.same rfl rfl rfl rfl) rfl (by simp) | exact wanted_zero (hr7.env.same rfl rfl rfl rfl) rfl (by simp [*])) rfl (callable 9 Try.func9) (done_ok w7 v L 5 (2 * k) (mgK (100 + k)) hR7 hI.small (by omega) (by omega)) ?_
    rintro e8 w8 ⟨v8, L8, rfl, hR8a, hDT8, _, hb8⟩
    refine ⟨_, rfl, ?_⟩
    have h8 := hr7.ret hb8 41 (.tu [.v v8, .v (.int .i64 (doneE L 5 (2 * k)))]) rfl _ (hr7.all.below hb8) (by simp) rfl
    have hd := hDT8 hE0
    have hR8 := hR8a.mono (P' := fun x => w.heap.size ≤ x) fun x _ h => by omega
    have hl8 : L8.length ≤ 51 * k + 1 := by have := hd.len; split at this <;> omega
    have hI8 : LInv L8 (k + 1) := ⟨hd.chk, hd.small hI.small (by show 2 * (k : Int) ≤ _; omega), hI.five.step hI.chk hd⟩
    refine seg cfg5_ok mixed PanicFree.body 1000 [false] [] h8.rebase (by first | trivial | exact HpRep.nil | assumption) (by kernel_rfl) fun s_ hs_ => ?_
    simp (maxSteps := 10000000) [SX.vc, SX.stop, SX.contS, SX.contB, SX.contW, SX.contR, SX.contD, SX.sxStep, SX.stepPure, SX.stepNew, SX.stepStore, SX.stepKeep, SX.guardIx, SX.evOp, SX.opd, SX.opds, SX.optOpd, SX.look, SX.putS, SX.gobs, SX.AllP, SX.leave, SX.lookC, SX.lookB, SX.lookT, SX.lookN, SX.findK, SX.evBuiltin, SX.ints, SX.foldI, SX.evBin, SX.evInt, SX.evStr, SX.evEq, SX.arith, SX.evLoad, SX.shapeUp, SX.evFieldAddr, SX.evField, SX.evIndexAddr, SX.evIndex, SX.evFill, SX.evBuild, SX.szs, SX.cellsV, SX.evNew, SX.evStore, SX.spliceL, SX.SV.cells, SX.evConv, SX.evSlice, SX.bnd, SX.evNil, SX.evUn, SX.evPick, SX.pickOpd, SX.popTo, SX.cnd, SX.env0, SX.TD.isAgg, SX.TD.isIface, SX.tails, SX.NotAgg, SX.evLookup, SX.evConvH, SX.evPtrEq, SX.isCells, SX.thaw, SX.frz, SX.fixB, SX.rootIx, SX.Froz, SX.frzStep, SX.fork, Go.Value.cells, Go.undef, cfg5, hE0]
    refine ⟨by (unfold SX.Ob; first | trivial | omega | ((try simp only [SX.inK]); (try simp [SX.den, SX.IsU8, SX.AllP, *]); (try omega))), ?_⟩
    intro a9 w9 hr9' _
    have hr9 := h8.unbase hr9'
    have hR9 := hR8.keep hr9'.keeps (by simp [frameAt, mutB])
    refine post_loop (LsLoop2 w n k others (.slice ad others.length cp)) others.length ⟨0, L8, v8, rfl, by omega, hI8, by omega, hR9, hr9.re (by simp [envTo, SX.look]) trivial rfl rfl⟩ ?_
    clear hI hlen hR hr6 hK0 hE0 hr7' hr7 hR7 h8 hd hR8a hR8 hl8 hI8 hr9' hr9 hR9 hDT8
    rintro m a10 w10 ⟨j, L, v, rfl, hj, hI, hlen, hR, hr10⟩
    by_cases hlt2 : j < others.length
    · obtain ⟨b, o0, cap, u, fz, hP, hv, hrep⟩ := (hO.below hr10.keeps.toBelow).opn hlt2
      cases hv
      obtain ⟨o, ho⟩ : ∃ o, nth 0 others j = o := ⟨_, rfl⟩
      have h11 := (hr10.top 47 (.sl 0 b o0 0 others.length cp 1) rfl (by simp [den])).see [(b, false, .arr o0 others.length (fun j => intC (nth 0 others j)) 1 u fz)] (HpAll.one hrep)
      by_cases c1 : 0 ≤ o
      rotate_left
      · refine seg cfg5_ok mixed PanicFree.body 1000 [true, false] [(55, false)] h11.rebase (by first | trivial | exact HpRep.nil | assumption) (by kernel_rfl) fun s_ hs_ => ?_
        simp (maxSteps := 10000000) [SX.vc, SX.stop, SX.contS, SX.contB, SX.contW, SX.contR, SX.contD, SX.sxStep, SX.stepPure, SX.stepNew, SX.stepStore, SX.stepKeep, SX.guardIx, SX.evOp, SX.opd, SX.opds, SX.optOpd, SX.look, SX.putS, SX.gobs, SX.AllP, SX.leave, SX.lookC, SX.lookB, SX.lookT, SX.lookN, SX.findK, SX.evBuiltin, SX.ints, SX.foldI, SX.evBin, SX.evInt, SX.evStr, SX.evEq, SX.arith, SX.evLoad, SX.shapeUp, SX.evFieldAddr, SX.evField, SX.evIndexAddr, SX.evIndex, SX.evFill, SX.evBuild, SX.szs, SX.cellsV, SX.evNew, SX.evStore, SX.spliceL, SX.SV.cells, SX.evConv, SX.evSlice, SX.bnd, SX.evNil, SX.evUn, SX.evPick, SX.pickOpd, SX.popTo, SX.cnd, SX.env0, SX.TD.isAgg, SX.TD.isIface, SX.tails, SX.NotAgg, SX.evLookup, SX.evConvH, SX.evPtrEq, SX.isCells, SX.thaw, SX.frz, SX.fixB, SX.rootIx, SX.Froz, SX.frzStep, SX.fork, Go.Value.cells, Go.undef, cfg5, intC, ho, c1]
        refine ⟨by (unfold SX.Ob; first | trivial | omega | ((try simp only [SX.inK]); (try simp [SX.den, SX.IsU8, SX.AllP, *]); (try omega))), ?_⟩
        intro a12 w12 hr12' _
        have hr12 := h11.unbase hr12'
        exact post_rnd (others.length - (j + 1)) (by omega) ⟨j + 1, L, v, rfl, hlt2, hI, by omega, hR.keep hr12'.keeps (by simp [frameAt, mutB]), hr12.re (by simp [envTo, SX.look, den]) trivial rfl rfl⟩
      by_cases c2 : o = 5
      · refine seg cfg5_ok mixed PanicFree.body 1000 [true, false] [(55, true)] h11.rebase (by first | trivial | exact HpRep.nil | assumption) (by kernel_rfl) fun s_ hs_ => ?_
        simp (maxSteps := 10000000) [SX.vc, SX.stop, SX.contS, SX.contB, SX.contW, SX.contR, SX.contD, SX.sxStep, SX.stepPure, SX.stepNew, SX.stepStore, SX.stepKeep, SX.guardIx, SX.evOp, SX.opd, SX.opds, SX.optOpd, SX.look, SX.putS, SX.gobs, SX.AllP, SX.leave, SX.lookC, SX.lookB, SX.lookT, SX.lookN, SX.findK, SX.evBuiltin, SX.ints, SX.foldI, SX.evBin, SX.evInt, SX.evStr, SX.evEq, SX.arith, SX.evLoad, SX.shapeUp, SX.evFieldAddr, SX.evField, SX.evIndexAddr, SX.evIndex, SX.evFill, SX.evBuild, SX.szs, SX.cellsV, SX.evNew, SX.evStore, SX.spliceL, SX.SV.cells, SX.evConv, SX.evSlice, SX.bnd, SX.evNil, SX.evUn, SX.evPick, SX.pickOpd, SX.popTo, SX.cnd, SX.env0, SX.TD.isAgg, SX.TD.isIface, SX.tails, SX.NotAgg, SX.evLookup, SX.evConvH, SX.evPtrEq, SX.isCells, SX.thaw, SX.frz, SX.fixB, SX.rootIx, SX.Froz, SX.frzStep, SX.fork, Go.Value.cells, Go.undef, cfg5, intC, ho, c1, c2]
        refine ⟨by (unfold SX.Ob; first | trivial | omega | ((try simp only [SX.inK]); (try simp [SX.den, SX.IsU8, SX.AllP, *]); (try omega))), ?_⟩
        intro a12 w12 hr12' _
        have hr12 := h11.unbase hr12'
        exact post_rnd (others.length - (j + 1)) (by omega) ⟨j + 1, L, v, rfl, hlt2, hI, by omega, hR.keep hr12'.keeps (by simp [frameAt, mutB]), hr12.re (by simp [envTo, SX.look, den]) trivial rfl rfl⟩
      have c2' : (o == 5) = false := by simpa using c2
      refine seg cfg5_ok mixed PanicFree.body 1000 [true, true] [(55, true)] h11.rebase (by first | trivial | exact HpRep.nil | assumption) (by kernel_rfl) fun s_ hs_ => ?_
      simp (maxSteps := 10000000) [SX.vc, SX.stop, SX.contS, SX.contB, SX.contW, SX.contR, SX.contD, SX.sxStep, SX.stepPure, SX.stepNew, SX.stepStore, SX.stepKeep, SX.guardIx, SX.evOp, SX.opd, SX.opds, SX.optOpd, SX.look, SX.putS, SX.gobs, SX.AllP, SX.leave, SX.lookC, SX.lookB, SX.lookT, SX.lookN, SX.findK, SX.evBuiltin, SX.ints, SX.foldI, SX.evBin, SX.evInt, SX.evStr, SX.evEq, SX.arith, SX.evLoad, SX.shapeUp, SX.evFieldAddr, SX.evField, SX.evIndexAddr, SX.evIndex, SX.evFill, SX.evBuild, SX.szs, SX.cellsV, SX.evNew, SX.evStore, SX.spliceL, SX.SV.cells, SX.evConv, SX.evSlice, SX.bnd, SX.evNil, SX.evUn, SX.evPick, SX.pickOpd, SX.popTo, SX.cnd, SX.env0, SX.TD.isAgg, SX.TD.isIface, SX.tails, SX.NotAgg, SX.evLookup, SX.evConvH, SX.evPtrEq, SX.isCells, SX.thaw, SX.frz, SX.fixB, SX.rootIx, SX.Froz, SX.frzStep, SX.fork, Go.Value.cells, Go.undef, cfg5, intC, ho, c1, c2']
      refine ⟨by (unfold SX.Ob; first | trivial | omega | ((try simp only [SX.inK]); (try simp [SX.den, SX.IsU8, SX.AllP, *]); (try omega))), ?_⟩
      intro a12 w12 hr12' _
      have hr12 := h11.unbase hr12'
      have z12 : w.heap.size ≤ w12.heap.size := hr12.keeps.size
      have hR12 := hR.keep hr12'.keeps (by simp [frameAt, mutB])
      refine post_call 9 [.v v, .v (.int .i64 o), .v (.int .i64 k), .ag (mgC mg0)] hr12 (by first | exact wanted_none rfl | exact wanted_zero (hr12.env.same rfl rfl rfl rfl) rfl (by simp) | exact wanted_zero (hr12.env.same rfl rfl rfl rfl) rfl (by simp [*])) rfl (callable 9 Try.func9) (done_ok w12 v L o k mg0 hR12 hI.small (by omega) (by omega)) ?_
      rintro e13 w13 ⟨v13, L13, rfl, hR13a, hDT13, _, hb13⟩
      refine ⟨_, rfl, ?_⟩
      have h13a := hr12.ret hb13 64 (.tu [.v v13, .v (.int .i64 (doneE L o k))]) rfl _ (hr12.all.below hb13) (by simp) rfl
      have h13 := h13a.see [] trivial
      have hR13 := hR13a.mono (P' := fun x => w.heap.size ≤ x) fun x _ h => by omega
      have hRo := hR12.below hb13
      by_cases hE : doneE L o k = 0
      · have hd := hDT13 hE
        have hl : L13.length ≤ 51 * k + 1 + (j + 1) := by have := hd.len; split at this <;> omega
        refine seg cfg5_ok mixed PanicFree.body 1000 [true] [] h13.rebase (by first | trivial | exact HpRep.nil | assumption) (by kernel_rfl) fun s_ hs_ => ?_
        simp (maxSteps := 10000000) [SX.vc, SX.stop, SX.contS, SX.contB, SX.contW, SX.contR, SX.contD, SX.sxStep, SX.stepPure, SX.stepNew, SX.stepStore, SX.stepKeep, SX.guardIx, SX.evOp, SX.opd, SX.opds, SX.optOpd, SX.look, SX.putS, SX.gobs, SX.AllP, SX.leave, SX.lookC, SX.lookB, SX.lookT, SX.lookN, SX.findK, SX.evBuiltin, SX.ints, SX.foldI, SX.evBin, SX.evInt, SX.evStr, SX.evEq, SX.arith, SX.evLoad, SX.shapeUp, SX.evFieldAddr, SX.evField, SX.evIndexAddr, SX.evIndex, SX.evFill, SX.evBuild, SX.szs, SX.cellsV, SX.evNew, SX.evStore, SX.spliceL, SX.SV.cells, SX.evConv, SX.evSlice, SX.bnd, SX.evNil, SX.evUn, SX.evPick, SX.pickOpd, SX.popTo, SX.cnd, SX.env0, SX.TD.isAgg, SX.TD.isIface, SX.tails, SX.NotAgg, SX.evLookup, SX.evConvH, SX.evPtrEq, SX.isCells, SX.thaw, SX.frz, SX.fixB, SX.rootIx, SX.Froz, SX.frzStep, SX.fork, Go.Value.cells, Go.undef, cfg5, hE]
        refine ⟨by (unfold SX.Ob; first | trivial | omega | ((try simp only [SX.inK]); (try simp [SX.den, SX.IsU8, SX.AllP, *]); (try omega))), ?_⟩
        intro a14 w14 hr14' _
        have hr14 := h13.unbase hr14'
        exact post_rnd (others.length - (j + 1)) (by omega) ⟨j + 1, L13, v13, rfl, hlt2, ⟨hd.chk, hd.small hI.small (by show (k : Int) ≤ _; omega), hI.five.keep hd c2⟩, hl, hR13.keep hr14'.keeps (by simp [frameAt, mutB]), hr14.re (by simp [envTo, SX.look, den]) trivial rfl rfl⟩
      · have hE' : (doneE L o k == 0) = false := by simpa using hE
        refine seg cfg5_ok mixed PanicFree.body 1000 [false] [] h13.rebase (by first | trivial | exact HpRep.nil | assumption) (by kernel_rfl) fun s_ hs_ => ?_
        simp (maxSteps := 10000000) [SX.vc, SX.stop, SX.contS, SX.contB, SX.contW, SX.contR, SX.contD, SX.sxStep, SX.stepPure, SX.stepNew, SX.stepStore, SX.stepKeep, SX.guardIx, SX.evOp, SX.opd, SX.opds, SX.optOpd, SX.look, SX.putS, SX.gobs, SX.AllP, SX.leave, SX.lookC, SX.lookB, SX.lookT, SX.lookN, SX.findK, SX.evBuiltin, SX.ints, SX.foldI, SX.evBin, SX.evInt, SX.evStr, SX.evEq, SX.arith, SX.evLoad, SX.shapeUp, SX.evFieldAddr, SX.evField, SX.evIndexAddr, SX.evIndex, SX.evFill, SX.evBuild, SX.szs, SX.cellsV, SX.evNew, SX.evStore, SX.spliceL, SX.SV.cells, SX.evConv, SX.evSlice, SX.bnd, SX.evNil, SX.evUn, SX.evPick, SX.pickOpd, SX.popTo, SX.cnd, SX.env0, SX.TD.isAgg, SX.TD.isIface, SX.tails, SX.NotAgg, SX.evLookup, SX.evConvH, SX.evPtrEq, SX.isCells, SX.thaw, SX.frz, SX.fixB, SX.rootIx, SX.Froz, SX.frzStep, SX.fork, Go.Value.cells, Go.undef, cfg5, hE']
        refine ⟨by (unfold SX.Ob; first | trivial | omega | ((try simp only [SX.inK]); (try simp [SX.den, SX.IsU8, SX.AllP, *]); (try omega))), ?_⟩
        intro a14 w14 hr14' _
        have hr14 := h13.unbase hr14'
        exact post_rnd (others.length - (j + 1)) (by omega) ⟨j + 1, L, v, rfl, hlt2, hI, by omega, hRo.keep hr14'.keeps (by simp [frameAt, mutB]), hr14.re (by simp [envTo, SX.look, den]) trivial rfl rfl⟩
    · obtain rfl : j = others.length := by omega
      refine seg cfg5_ok mixed PanicFree.body 1000 [false] [] hr10.rebase (by first | trivial | exact HpRep.nil | assumption) (by kernel_rfl) fun s_ hs_ => ?_
      simp (maxSteps := 10000000) [SX.vc, SX.stop, SX.contS, SX.contB, SX.contW, SX.contR, SX.contD, SX.sxStep, SX.stepPure, SX.stepNew, SX.stepStore, SX.stepKeep, SX.guardIx, SX.evOp, SX.opd, SX.opds, SX.optOpd, SX.look, SX.putS, SX.gobs, SX.AllP, SX.leave, SX.lookC, SX.lookB, SX.lookT, SX.lookN, SX.findK, SX.evBuiltin, SX.ints, SX.foldI, SX.evBin, SX.evInt, SX.evStr, SX.evEq, SX.arith, SX.evLoad, SX.shapeUp, SX.evFieldAddr, SX.evField, SX.evIndexAddr, SX.evIndex, SX.evFill, SX.evBuild, SX.szs, SX.cellsV, SX.evNew, SX.evStore, SX.spliceL, SX.SV.cells, SX.evConv, SX.evSlice, SX.bnd, SX.evNil, SX.evUn, SX.evPick, SX.pickOpd, SX.popTo, SX.cnd, SX.env0, SX.TD.isAgg, SX.TD.isIface, SX.tails, SX.NotAgg, SX.evLookup, SX.evConvH, SX.evPtrEq, SX.isCells, SX.thaw, SX.frz, SX.fixB, SX.rootIx, SX.Froz, SX.frzStep, SX.fork, Go.Value.cells, Go.undef, cfg5]
      refine ⟨by (unfold SX.Ob; first | trivial | omega | ((try simp only [SX.inK]); (try simp [SX.den, SX.IsU8, SX.AllP, *]); (try omega))), ?_⟩
      intro a11 w11 hr11' _
      have hr11 := hr10.unbase hr11'
      exact post_rnd (n - (k + 1)) (by omega) ⟨k + 1, L, v, rfl, hlt, hI, by omega, hR.keep hr11'.keeps (by simp [frameAt, mutB]), hr11.re (by simp [envTo, SX.look, den]) trivial rfl rfl⟩
  · obtain rfl : k = n := by omega
    refine seg cfg5_ok mixed PanicFree.body 1000 [false] [] hr6.rebase (by first | trivial | exact HpRep.nil | assumption) (by kernel_rfl) fun s_ hs_ => ?_
    simp (maxSteps := 10000000) [SX.vc, SX.stop, SX.contS, SX.contB, SX.contW, SX.contR, SX.contD, SX.sxStep, SX.stepPure, SX.stepNew, SX.stepStore, SX.stepKeep, SX.guardIx, SX.evOp, SX.opd, SX.opds, SX.optOpd, SX.look, SX.putS, SX.gobs, SX.AllP, SX.leave, SX.lookC, SX.lookB, SX.lookT, SX.lookN, SX.findK, SX.evBuiltin, SX.ints, SX.foldI, SX.evBin, SX.evInt, SX.evStr, SX.evEq, SX.arith, SX.evLoad, SX.shapeUp, SX.evFieldAddr, SX.evField, SX.evIndexAddr, SX.evIndex, SX.evFill, SX.evBuild, SX.szs, SX.cellsV, SX.evNew, SX.evStore, SX.spliceL, SX.SV.cells, SX.evConv, SX.evSlice, SX.bnd, SX.evNil, SX.evUn, SX.evPick, SX.pickOpd, SX.popTo, SX.cnd, SX.env0, SX.TD.isAgg, SX.TD.isIface, SX.tails, SX.NotAgg, SX.evLookup, SX.evConvH, SX.evPtrEq, SX.isCells, SX.thaw, SX.frz, SX.fixB, SX.rootIx, SX.Froz, SX.frzStep, SX.fork, Go.Value.cells, Go.undef, cfg5]
    refine ⟨by (unfold SX.Ob; first | trivial | omega | ((try simp only [SX.inK]); (try simp [SX.den, SX.IsU8, SX.AllP, *]); (try omega))), ?_⟩
    intro a7 w7 hr7' _
    have hr7 := hr6.unbase hr7'
    have hR7 := hR.keep hr7'.keeps (by simp [frameAt, mutB])
    refine post_loop (LsLoop3 w k L v) k ⟨0, rfl, by omega, hR7, hr7.re (by simp [envTo, SX.look]) trivial rfl rfl⟩ ?_
    clear hR hR7 hr6 hr7 hr7'
    rintro m a8 w8 ⟨i, rfl, hi, hR, hr8⟩
    by_cases hlt2 : i < k
    · obtain ⟨hKi, hMi⟩ := hI.five.ask hI.chk i
      refine seg cfg5_ok mixed PanicFree.body 1000 [true] [] hr8.rebase (by first | trivial | exact HpRep.nil | assumption) (by kernel_rfl) fun s_ hs_ => ?_
      simp (maxSteps := 10000000) [SX.vc, SX.stop, SX.contS, SX.contB, SX.contW, SX.contR, SX.contD, SX.sxStep, SX.stepPure, SX.stepNew, SX.stepStore, SX.stepKeep, SX.guardIx, SX.evOp, SX.opd, SX.opds, SX.optOpd, SX.look, SX.putS, SX.gobs, SX.AllP, SX.leave, SX.lookC, SX.lookB, SX.lookT, SX.lookN, SX.findK, SX.evBuiltin, SX.ints, SX.foldI, SX.evBin, SX.evInt, SX.evStr, SX.evEq, SX.arith, SX.evLoad, SX.shapeUp, SX.evFieldAddr, SX.evField, SX.evIndexAddr, SX.evIndex, SX.evFill, SX.evBuild, SX.szs, SX.cellsV, SX.evNew, SX.evStore, SX.spliceL, SX.SV.cells, SX.evConv, SX.evSlice, SX.bnd, SX.evNil, SX.evUn, SX.evPick, SX.pickOpd, SX.popTo, SX.cnd, SX.env0, SX.TD.isAgg, SX.TD.isIface, SX.tails, SX.NotAgg, SX.evLookup, SX.evConvH, SX.evPtrEq, SX.isCells, SX.thaw, SX.frz, SX.fixB, SX.rootIx, SX.Froz, SX.frzStep, SX.fork, Go.Value.cells, Go.undef, cfg5, hlt2]
      refine ⟨by (unfold SX.Ob; first | trivial | omega | ((try simp only [SX.inK]); (try simp [SX.den, SX.IsU8, SX.AllP, *]); (try omega))), ?_⟩
      intro a9 w9 hr9' _
      have hr9 := hr8.unbase hr9'
      have hR9 := hR.keep hr9'.keeps (by simp [frameAt, mutB])
      refine post_call 8 [.v v, .v (.int .i64 5), .v (.int .i64 (2 * i))] hr9 (by first | exact wanted_none rfl | exact wanted_zero (hr9.env.same rfl rfl rfl rfl) rfl (by simp) | exact wanted_zero (hr9.env.same rfl rfl rfl rfl) rfl (by simp [*])) rfl (callable 8 Try.func8) (ask_ok w9 v L 5 (2 * i) hR9 hI.small (by omega)) ?_
      rintro e10 w10 ⟨rfl, hb10⟩
      refine ⟨_, rfl, ?_⟩
      have h10 := hr9.ret hb10 80 (.tu [.ag (mgC (askM L 5 (2 * i))), .v (.int .i64 (askK L 5 (2 * i)))]) rfl _ (hr9.all.below hb10) (by simp) rfl
      have hR10 := hR9.below hb10
      by_cases h8 : i + 8 < k
      · rw [if_pos h8] at hKi
        have c1 : ¬ (k : Int) - 8 ≤ (i : Int) := by omega
        have c2 : (i : Int) < (k : Int) - 8 := by omega
        refine seg cfg5_ok mixed PanicFree.body 1000 [false] [(87, false), (90, false), (98, false), (103, true)] h10.rebase (by first | trivial | exact HpRep.nil | assumption) (by kernel_rfl) fun s_ hs_ => ?_
        simp (maxSteps := 10000000) [SX.vc, SX.stop, SX.contS, SX.contB, SX.contW, SX.contR, SX.contD, SX.sxStep, SX.stepPure, SX.stepNew, SX.stepStore, SX.stepKeep, SX.guardIx, SX.evOp, SX.opd, SX.opds, SX.optOpd, SX.look, SX.putS, SX.gobs, SX.AllP, SX.leave, SX.lookC, SX.lookB, SX.lookT, SX.lookN, SX.findK, SX.evBuiltin, SX.ints, SX.foldI, SX.evBin, SX.evInt, SX.evStr, SX.evEq, SX.arith, SX.evLoad, SX.shapeUp, SX.evFieldAddr, SX.evField, SX.evIndexAddr, SX.evIndex, SX.evFill, SX.evBuild, SX.szs, SX.cellsV, SX.evNew, SX.evStore, SX.spliceL, SX.SV.cells, SX.evConv, SX.evSlice, SX.bnd, SX.evNil, SX.evUn, SX.evPick, SX.pickOpd, SX.popTo, SX.cnd, SX.env0, SX.TD.isAgg, SX.TD.isIface, SX.tails, SX.NotAgg, SX.evLookup, SX.evConvH, SX.evPtrEq, SX.isCells, SX.thaw, SX.frz, SX.fixB, SX.rootIx, SX.Froz, SX.frzStep, SX.fork, Go.Value.cells, Go.undef, cfg5, mgC, hKi, c1, c2]
        refine ⟨by (unfold SX.Ob; first | trivial | omega | ((try simp only [SX.inK]); (try simp [SX.den, SX.IsU8, SX.AllP, *]); (try omega))), ?_⟩
        intro a11 w11 hr11' _
        have hr11 := h10.unbase hr11'
        exact post_rnd (k - (i + 1)) (by omega) ⟨i + 1, rfl, hlt2, hR10.keep hr11'.keeps (by simp [frameAt, mutB]), hr11.re (by simp [envTo, SX.look, den]) trivial rfl rfl⟩
      · rw [if_neg h8, if_pos hlt2] at hKi
        have hM := hMi (by omega) hlt2
        have c1 : (k : Int) - 8 ≤ (i : Int) := by omega
        have c2 : ¬ (i : Int) < (k : Int) - 8 := by omega
        refine seg cfg5_ok mixed PanicFree.body 1000 [false] [(87, true), (90, false), (98, false), (103, false)] h10.rebase (by first | trivial | exact HpRep.nil | assumption) (by kernel_rfl) fun s_ hs_ => ?_
        simp (maxSteps := 10000000) [SX.vc, SX.stop, SX.contS, SX.contB, SX.contW, SX.contR, SX.contD, SX.sxStep, SX.stepPure, SX.stepNew, SX.stepStore, SX.stepKeep, SX.guardIx, SX.evOp, SX.opd, SX.opds, SX.optOpd, SX.look, SX.putS, SX.gobs, SX.AllP, SX.leave, SX.lookC, SX.lookB, SX.lookT, SX.lookN, SX.findK, SX.evBuiltin, SX.ints, SX.foldI, SX.evBin, SX.evInt, SX.evStr, SX.evEq, SX.arith, SX.evLoad, SX.shapeUp, SX.evFieldAddr, SX.evField, SX.evIndexAddr, SX.evIndex, SX.evFill, SX.evBuild, SX.szs, SX.cellsV, SX.evNew, SX.evStore, SX.spliceL, SX.SV.cells, SX.evConv, SX.evSlice, SX.bnd, SX.evNil, SX.evUn, SX.evPick, SX.pickOpd, SX.popTo, SX.cnd, SX.env0, SX.TD.isAgg, SX.TD.isIface, SX.tails, SX.NotAgg, SX.evLookup, SX.evConvH, SX.evPtrEq, SX.isCells, SX.thaw, SX.frz, SX.fixB, SX.rootIx, SX.Froz, SX.frzStep, SX.fork, Go.Value.cells, Go.undef, cfg5, mgC, mgK, hM, hKi, c1, c2]
        refine ⟨by (unfold SX.Ob; first | trivial | omega | ((try simp only [SX.inK]); (try simp [SX.den, SX.IsU8, SX.AllP, *]); (try omega))), ?_⟩
        intro a11 w11 hr11' _
        have hr11 := h10.unbase hr11'
        exact post_rnd (k - (i + 1)) (by omega) ⟨i + 1, rfl, hlt2, hR10.keep hr11'.keeps (by simp [frameAt, mutB]), hr11.re (by simp [envTo, SX.look, den]) trivial rfl rfl⟩
    · obtain rfl : i = k := by omega
      have hKi := (hI.five.ask hI.chk i).1
      rw [if_neg (by omega), if_neg (by omega)] at hKi
      refine seg cfg5_ok mixed PanicFree.body 1000 [false] [] hr8.rebase (by first | trivial | exact HpRep.nil | assumption) (by kernel_rfl) fun s_ hs_ => ?_
      simp (maxSteps := 10000000) [SX.vc, SX.stop, SX.contS, SX.contB, SX.contW, SX.contR, SX.contD, SX.sxStep, SX.stepPure, SX.stepNew, SX.stepStore, SX.stepKeep, SX.guardIx, SX.evOp, SX.opd, SX.opds, SX.optOpd, SX.look, SX.putS, SX.gobs, SX.AllP, SX.leave, SX.lookC, SX.lookB, SX.lookT, SX.lookN, SX.findK, SX.evBuiltin, SX.ints, SX.foldI, SX.evBin, SX.evInt, SX.evStr, SX.evEq, SX.arith, SX.evLoad, SX.shapeUp, SX.evFieldAddr, SX.evField, SX.evIndexAddr, SX.evIndex, SX.evFill, SX.evBuild, SX.szs, SX.cellsV, SX.evNew, SX.evStore, SX.spliceL, SX.SV.cells, SX.evConv, SX.evSlice, SX.bnd, SX.evNil, SX.evUn, SX.evPick, SX.pickOpd, SX.popTo, SX.cnd, SX.env0, SX.TD.isAgg, SX.TD.isIface, SX.tails, SX.NotAgg, SX.evLookup, SX.evConvH, SX.evPtrEq, SX.isCells, SX.thaw, SX.frz, SX.fixB, SX.rootIx, SX.Froz, SX.frzStep, SX.fork, Go.Value.cells, Go.undef, cfg5]
      refine ⟨by (unfold SX.Ob; first | trivial | omega | ((try simp only [SX.inK]); (try simp [SX.den, SX.IsU8, SX.AllP, *]); (try omega))), ?_⟩
      intro a9 w9 hr9' _
      have hr9 := hr8.unbase hr9'
      have hR9 := hR.keep hr9'.keeps (by simp [frameAt, mutB])
      refine post_call 8 [.v v, .v (.int .i64 5), .v (.int .i64 (2 * i))] hr9 (by first | exact wanted_none rfl | exact wanted_zero (hr9.env.same rfl rfl rfl rfl) rfl (by simp) | exact wanted_zero (hr9.env.same rfl rfl rfl rfl) rfl (by simp [*])) rfl (callable 8 Try.func8) (ask_ok w9 v L 5 (2 * i) hR9 hI.small (by omega)) ?_
      rintro e10 w10 ⟨rfl, hb10⟩
      refine ⟨_, rfl, ?_⟩
      have h10 := hr9.ret hb10 113 (.tu [.ag (mgC (askM L 5 (2 * i))), .v (.int .i64 (askK L 5 (2 * i)))]) rfl _ (hr9.all.below hb10) (by simp) rfl
      have hR10 := hR9.below hb10
      refine seg cfg5_ok mixed PanicFree.body 1000 [] [] h10.rebase (by first | trivial | exact HpRep.nil | assumption) (by kernel_rfl) fun sF hsF => ?_
      simp (maxSteps := 10000000) [SX.vc, SX.stop, SX.contS, SX.contB, SX.contW, SX.contR, SX.contD, SX.sxStep, SX.stepPure, SX.stepNew, SX.stepStore, SX.stepKeep, SX.guardIx, SX.evOp, SX.opd, SX.opds, SX.optOpd, SX.look, SX.putS, SX.gobs, SX.AllP, SX.leave, SX.lookC, SX.lookB, SX.lookT, SX.lookN, SX.findK, SX.evBuiltin, SX.ints, SX.foldI, SX.evBin, SX.evInt, SX.evStr, SX.evEq, SX.arith, SX.evLoad, SX.shapeUp, SX.evFieldAddr, SX.evField, SX.evIndexAddr, SX.evIndex, SX.evFill, SX.evBuild, SX.szs, SX.cellsV, SX.evNew, SX.evStore, SX.spliceL, SX.SV.cells, SX.evConv, SX.evSlice, SX.bnd, SX.evNil, SX.evUn, SX.evPick, SX.pickOpd, SX.popTo, SX.cnd, SX.env0, SX.TD.isAgg, SX.TD.isIface, SX.tails, SX.NotAgg, SX.evLookup, SX.evConvH, SX.evPtrEq, SX.isCells, SX.thaw, SX.frz, SX.fixB, SX.rootIx, SX.Froz, SX.frzStep, SX.fork, Go.Value.cells, Go.undef, cfg5, mgC, hKi]
      refine ⟨by (unfold SX.Ob; first | trivial | omega | ((try simp only [SX.inK]); (try simp [SX.den, SX.IsU8, SX.AllP, *]); (try omega))), ?_⟩
      intro a11 w11 hr11' _
      have hr11 := h10.unbase hr11'
      have hR11 := hR10.keep hr11'.keeps (by simp [frameAt, mutB])
      have z11 : w.heap.size ≤ w11.heap.size := hr11.keeps.size
      have hlit := RdS.lit (enc := intC) (sz := 1) (d := (0 : Int)) (x := 5) hr11.all.2.1.1 (by simp [intC])
      refine post_call 15 [.v v, .sl 1 (sF + 1) 0 0 1 1 1] hr11 (by first | exact wanted_none rfl | exact wanted_zero (hr11.env.same rfl rfl rfl rfl) rfl (by simp) | exact wanted_zero (hr11.env.same rfl rfl rfl rfl) rfl (by simp [*])) rfl (callable 15 Try.func15) (forget_ok w11 v _ L [5] hR11 hlit hI.chk hI.small (by omega) (by simp)) ?_
      rintro e12 w12 ⟨v12, rfl, hR12a, hb12⟩
      refine ⟨_, rfl, ?_⟩
      have h12a := hr11.ret hb12 119 (.v v12) rfl _ (hr11.all.below hb12) (by simp) rfl
      have h12 := h12a.see [] trivial
      have hR12 : RdD (fun x => w.heap.size ≤ x) w12 v12 (fgL [5] L) := hR12a.mono fun x _ h => by omega
      have hK0 := fg_new (K := [5]) hI.chk (g := 5) (i := 0) (by simp) (by omega)
      have hlf : (fgL [5] L).length ≤ L.length := List.length_filter_le _ _
      refine post_call 8 [.v v12, .v (.int .i64 5), .v (.int .i64 0)] h12 (by first | exact wanted_none rfl | exact wanted_zero (h12.env.same rfl rfl rfl rfl) rfl (by simp) | exact wanted_zero (h12.env.same rfl rfl rfl rfl) rfl (by simp [*])) rfl (callable 8 Try.func8) (ask_ok w12 v12 (fgL [5] L) 5 0 hR12 (fg_small hI.small) (by omega)) ?_
      rintro e13 w13 ⟨rfl, hb13⟩
      refine ⟨_, rfl, ?_⟩
      have h13 := h12.ret hb13 120 (.tu [.ag (mgC (askM (fgL [5] L) 5 0)), .v (.int .i64 (askK (fgL [5] L) 5 0))]) rfl _ (h12.all.below hb13) (by simp) rfl
      refine seg cfg5_ok mixed PanicFree.body 1000 [] [(124, true), (128, true)] h13 (by first | trivial | exact HpRep.nil | assumption) (by kernel_rfl) fun s_ hs_ => ?_
      simp (maxSteps := 10000000) [SX.vc, SX.stop, SX.contS, SX.contB, SX.contW, SX.contR, SX.contD, SX.sxStep, SX.stepPure, SX.stepNew, SX.stepStore, SX.stepKeep, SX.guardIx, SX.evOp, SX.opd, SX.opds, SX.optOpd, SX.look, SX.putS, SX.gobs, SX.AllP, SX.leave, SX.lookC, SX.lookB, SX.lookT, SX.lookN, SX.findK, SX.evBuiltin, SX.ints, SX.foldI, SX.evBin, SX.evInt, SX.evStr, SX.evEq, SX.arith, SX.evLoad, SX.shapeUp, SX.evFieldAddr, SX.evField, SX.evIndexAddr, SX.evIndex, SX.evFill, SX.evBuild, SX.szs, SX.cellsV, SX.evNew, SX.evStore, SX.spliceL, SX.SV.cells, SX.evConv, SX.evSlice, SX.bnd, SX.evNil, SX.evUn, SX.evPick, SX.pickOpd, SX.popTo, SX.cnd, SX.env0, SX.TD.isAgg, SX.TD.isIface, SX.tails, SX.NotAgg, SX.evLookup, SX.evConvH, SX.evPtrEq, SX.isCells, SX.thaw, SX.frz, SX.fixB, SX.rootIx, SX.Froz, SX.frzStep, SX.fork, Go.Value.cells, Go.undef, cfg5, mgC, hK0]
      refine ⟨by (unfold SX.Ob; first | trivial | omega | ((try simp only [SX.inK]); (try simp [SX.den, SX.IsU8, SX.AllP, *]); (try omega))), ?_⟩
      intro a15 w15 hr15 _
      exact post_retn (end1 hr15 rfl rfl ⟨by simp [den], hr15.keeps.toBelow⟩).1
end Go.Proofs
