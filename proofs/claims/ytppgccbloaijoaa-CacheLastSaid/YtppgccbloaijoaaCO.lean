/- The law CacheRoom, walked. -/
import Derived.Test.YtppgccbloaijoaaCN
namespace Go.Proofs
set_option linter.unusedVariables false
set_option linter.unusedSimpArgs false
set_option linter.unusedSectionVars false
open Go Go.SX Go.RowKit Go.Ring

theorem tmod_bounds (x : Int) (k : Nat) (h : 0 < k) : -(k : Int) < x.tmod k ∧ x.tmod k < k :=
  ⟨Int.lt_tmod_of_pos x (by omega), Int.tmod_lt_of_pos x (by omega)⟩

theorem wrapped_idx (x : Int) (k : Nat) (h : 0 < k) : ∃ i : Nat, (x.tmod k + k).tmod k = i ∧ i < k := by
  have h1 := tmod_bounds x k h
  have h2 := tmod_bounds (x.tmod k + k) k h
  have h3 : 0 ≤ (x.tmod k + k).tmod k := Int.tmod_nonneg _ (by omega)
  exact ⟨((x.tmod k + k).tmod k).toNat, by omega, by omega⟩

def RoomPut (w : World) (c m j : Nat) (d : Nat) (a : Act) (w' : World) : Prop :=
  ∃ k : Nat, d = m - k ∧ k ≤ m ∧ CS (fun x => w.heap.size ≤ x) w' c m 0 0 ((downN k).map fIt) ∧
    RepX (frame0 w) ⟨[(34, 0, .v (.int .i64 k)), (33, 0, .v (.int .i64 m)), (6, 0, .ptr 0 c 0), (5, 0, .v (.bool true)), (1, 0, .v (.int .i64 j)), (0, 0, .v (.int .i64 m))], [], 0, 0, 127, [], [], []⟩ a w'

def RoomGet (w : World) (c m j : Nat) (d : Nat) (a : Act) (w' : World) : Prop :=
  ∃ k : Nat, d = m - k ∧ k ≤ m ∧ CS (fun x => w.heap.size ≤ x) w' c m k 0 ((mixN m k).map fIt) ∧
    RepX (frame0 w) ⟨[(47, 0, .v (.int .i64 k)), (46, 0, .v (.int .i64 m)), (6, 0, .ptr 0 c 0), (5, 0, .v (.bool true)), (1, 0, .v (.int .i64 j)), (0, 0, .v (.int .i64 m))], [], 0, 0, 127, [], [], []⟩ a w'

def RoomPost (w : World) (e : Ending) (w' : World) : Prop := e = .returned (.bool true) ∧ Below w.heap.size w w'

set_option maxRecDepth 100000 in
set_option maxHeartbeats 16000000 in
theorem room_ok (w : World) (x y : Int) (hx : inK x) (hy : inK y) : Calls Try.prog 3 (denL [.v (.int .i64 x), .v (.int .i64 y)]).toArray w (RoomPost w) := by
  refine enter (F := frame0 w) Try.func3 rfl [.v (.int .i64 x), .v (.int .i64 y)] [] (by simp [Try.f3]) trivial (keeps0 w) fun a hr => ?_
  refine seg cfg3_ok mixed PanicFree.body 1000 [] [] hr (by first | trivial | exact HpRep.nil | assumption) (by kernel_rfl) fun s_ hs_ => ?_
  simp (maxSteps := 10000000) [SX.vc, SX.stop, SX.contS, SX.contB, SX.contW, SX.contR, SX.contD, SX.sxStep, SX.stepPure, SX.stepNew, SX.stepStore, SX.stepKeep, SX.guardIx, SX.evOp, SX.opd, SX.opds, SX.optOpd, SX.look, SX.putS, SX.gobs, SX.AllP, SX.leave, SX.lookC, SX.lookB, SX.lookT, SX.lookN, SX.findK, SX.evBuiltin, SX.ints, SX.foldI, SX.evBin, SX.evInt, SX.evStr, SX.evEq, SX.arith, SX.evLoad, SX.shapeUp, SX.evFieldAddr, SX.evField, SX.evIndexAddr, SX.evIndex, SX.evFill, SX.evBuild, SX.szs, SX.cellsV, SX.evNew, SX.evStore, SX.spliceL, SX.SV.cells, SX.evConv, SX.evSlice, SX.bnd, SX.evNil, SX.evUn, SX.evPick, SX.pickOpd, SX.popTo, SX.cnd, SX.env0, SX.TD.isAgg, SX.TD.isIface, SX.tails, SX.NotAgg, SX.evLookup, SX.evConvH, SX.evPtrEq, SX.isCells, SX.thaw, SX.frz, SX.fixB, SX.rootIx, SX.Froz, SX.frzStep, SX.fork, Go.Value.cells, Go.undef, cfg3, Try.f3]
  refine ⟨by (unfold SX.Ob; first | trivial | omega | ((try simp only [SX.inK]); (try simp [SX.den, SX.IsU8, SX.AllP, *]); (try omega))), ?_⟩
  intro a1 w1 hr1 _
  refine post_call 6 [] hr1 (wanted_none rfl) rfl (callable 6 Try.func6) (live_ok w1) ?_
  rintro e w2 ⟨rfl, hb2⟩
  refine ⟨_, rfl, ?_⟩
  have h2 := hr1.ret hb2 18 (.v (.bool true)) rfl [] trivial (by simp) rfl
  obtain ⟨hx1, hx2⟩ := tmod_bounds x 50 (by omega)
  obtain ⟨q, hq, hq2⟩ := wrapped_idx x 50 (by omega)
  simp only [Int.cast_ofNat_Int] at hx1 hx2 hq
  obtain ⟨m, hm⟩ : ∃ m : Nat, m = 2 + q := ⟨_, rfl⟩
  have hmq : (2 : Int) + q = m := by omega
  have hm2 : 2 ≤ m := by omega
  have hm3 : m ≤ 51 := by omega
  clear hm
  obtain ⟨hy1, hy2⟩ := tmod_bounds y m (by omega)
  obtain ⟨j, hj, hj2⟩ := wrapped_idx y m (by omega)
  refine seg cfg3_ok mixed PanicFree.body 1000 [] [] h2 (by first | trivial | exact HpRep.nil | assumption) (by kernel_rfl) fun s_ hs_ => ?_
  simp (maxSteps := 10000000) [SX.vc, SX.stop, SX.contS, SX.contB, SX.contW, SX.contR, SX.contD, SX.sxStep, SX.stepPure, SX.stepNew, SX.stepStore, SX.stepKeep, SX.guardIx, SX.evOp, SX.opd, SX.opds, SX.optOpd, SX.look, SX.putS, SX.gobs, SX.AllP, SX.leave, SX.lookC, SX.lookB, SX.lookT, SX.lookN, SX.findK, SX.evBuiltin, SX.ints, SX.foldI, SX.evBin, SX.evInt, SX.evStr, SX.evEq, SX.arith, SX.evLoad, SX.shapeUp, SX.evFieldAddr, SX.evField, SX.evIndexAddr, SX.evIndex, SX.evFill, SX.evBuild, SX.szs, SX.cellsV, SX.evNew, SX.evStore, SX.spliceL, SX.SV.cells, SX.evConv, SX.evSlice, SX.bnd, SX.evNil, SX.evUn, SX.evPick, SX.pickOpd, SX.popTo, SX.cnd, SX.env0, SX.TD.isAgg, SX.TD.isIface, SX.tails, SX.NotAgg, SX.evLookup, SX.evConvH, SX.evPtrEq, SX.isCells, SX.thaw, SX.frz, SX.fixB, SX.rootIx, SX.Froz, SX.frzStep, SX.fork, Go.Value.cells, Go.undef, cfg3, hq, hmq, hj]
  refine ⟨by (unfold SX.Ob; first | trivial | omega | ((try simp only [SX.inK]); (try simp [SX.den, SX.IsU8, SX.AllP, *]); (try omega))), ?_⟩
  intro a3 w3 hr3 _
  refine post_call 7 [.v (.int .i64 m)] hr3 (wanted_none rfl) rfl (callable 7 Try.func7) (new_okS (fun x => w.heap.size ≤ x) w3 m (by unfold inK; omega) (live_tail w3 _ hr3.keeps.size)) ?_
  rintro e w4 ⟨c, rfl, hc, hb4, hS4⟩
  rw [show max (m : Int) 0 = m from by omega] at hS4
  refine ⟨_, rfl, ?_⟩
  have h4 := hr3.ret hb4 32 (.ptr 0 c 0) rfl [] trivial (by simp) rfl
  refine seg cfg3_ok mixed PanicFree.body 1000 [] [] h4.rebase (by first | trivial | exact HpRep.nil | assumption) (by kernel_rfl) fun s_ hs_ => ?_
  simp (maxSteps := 10000000) [SX.vc, SX.stop, SX.contS, SX.contB, SX.contW, SX.contR, SX.contD, SX.sxStep, SX.stepPure, SX.stepNew, SX.stepStore, SX.stepKeep, SX.guardIx, SX.evOp, SX.opd, SX.opds, SX.optOpd, SX.look, SX.putS, SX.gobs, SX.AllP, SX.leave, SX.lookC, SX.lookB, SX.lookT, SX.lookN, SX.findK, SX.evBuiltin, SX.ints, SX.foldI, SX.evBin, SX.evInt, SX.evStr, SX.evEq, SX.arith, SX.evLoad, SX.shapeUp, SX.evFieldAddr, SX.evField, SX.evIndexAddr, SX.evIndex, SX.evFill, SX.evBuild, SX.szs, SX.cellsV, SX.evNew, SX.evStore, SX.spliceL, SX.SV.cells, SX.evConv, SX.evSlice, SX.bnd, SX.evNil, SX.evUn, SX.evPick, SX.pickOpd, SX.popTo, SX.cnd, SX.env0, SX.TD.isAgg, SX.TD.isIface, SX.tails, SX.NotAgg, SX.evLookup, SX.evConvH, SX.evPtrEq, SX.isCells, SX.thaw, SX.frz, SX.fixB, SX.rootIx, SX.Froz, SX.frzStep, SX.fork, Go.Value.cells, Go.undef, cfg3]
  refine ⟨by (unfold SX.Ob; first | trivial | omega | ((try simp only [SX.inK]); (try simp [SX.den, SX.IsU8, SX.AllP, *]); (try omega))), ?_⟩
  intro a5 w5 hr5' _
  have hr5 := h4.unbase hr5'
  have hS5 := hS4.keep (by simpa [mutB] using hr5'.keeps.toBelow)
  refine post_loop (RoomPut w c m j) m ⟨0, rfl, by omega, hS5, hr5.re (by simp [envTo, SX.look]) trivial rfl rfl⟩ ?_
  clear hr h2 hr1 hr3 h4 hr5 hr5' hS4 hS5
  rintro d a6 w6 ⟨k, rfl, hk, hS6, hr6⟩
  by_cases hlt : k < m
  · refine seg cfg3_ok mixed PanicFree.body 1000 [true] [] hr6.rebase (by first | trivial | exact HpRep.nil | assumption) (by kernel_rfl) fun s_ hs_ => ?_
    simp (maxSteps := 10000000) [SX.vc, SX.stop, SX.contS, SX.contB, SX.contW, SX.contR, SX.contD, SX.sxStep, SX.stepPure, SX.stepNew, SX.stepStore, SX.stepKeep, SX.guardIx, SX.evOp, SX.opd, SX.opds, SX.optOpd, SX.look, SX.putS, SX.gobs, SX.AllP, SX.leave, SX.lookC, SX.lookB, SX.lookT, SX.lookN, SX.findK, SX.evBuiltin, SX.ints, SX.foldI, SX.evBin, SX.evInt, SX.evStr, SX.evEq, SX.arith, SX.evLoad, SX.shapeUp, SX.evFieldAddr, SX.evField, SX.evIndexAddr, SX.evIndex, SX.evFill, SX.evBuild, SX.szs, SX.cellsV, SX.evNew, SX.evStore, SX.spliceL, SX.SV.cells, SX.evConv, SX.evSlice, SX.bnd, SX.evNil, SX.evUn, SX.evPick, SX.pickOpd, SX.popTo, SX.cnd, SX.env0, SX.TD.isAgg, SX.TD.isIface, SX.tails, SX.NotAgg, SX.evLookup, SX.evConvH, SX.evPtrEq, SX.isCells, SX.thaw, SX.frz, SX.fixB, SX.rootIx, SX.Froz, SX.frzStep, SX.fork, Go.Value.cells, Go.undef, cfg3]
    refine ⟨by (unfold SX.Ob; first | trivial | omega | ((try simp only [SX.inK]); (try simp [SX.den, SX.IsU8, SX.AllP, *]); (try omega))), ?_⟩
    intro a7 w7 hr7' _
    have hr7 := hr6.unbase hr7'
    have hS7 := hS6.keep (by simpa [mutB] using hr7'.keeps.toBelow)
    refine post_call 9 [.v (.int .i64 k)] hr7 (wanted_none rfl) rfl (callable 9 Try.func9) (text_ok w7 k (by unfold inK; omega)) ?_
    rintro e w8 ⟨tb, rfl, htb, hB8, hb8⟩
    refine ⟨_, rfl, ?_⟩
    have h8 := hr7.ret hb8 42 (.v (.slice (some ⟨tb, 0, none⟩) 16 16)) rfl [] trivial (by simp) rfl
    refine post_call 8 [.ptr 0 c 0, .v (.int .i64 k), .v (.int .i64 (k + 1)), .v (.slice (some ⟨tb, 0, none⟩) 16 16)] h8 (wanted_none rfl) rfl (callable 8 Try.func8) (put_fresh hS7 hb8 (live_tail w7 _ hr7.keeps.size) (itm k (k + 1) k) (by simp [itm]) (by simp only [itm]; omega) tb 16 htb ⟨5, hB8⟩) ?_
    rintro e w9 ⟨rfl, hk9, hS9⟩
    refine ⟨_, rfl, ?_⟩
    rw [put_down hlt] at hS9
    have h9 := h8.retC hk9 (fun _ h => h) 43 (.v (.int .i64 0)) rfl [] trivial (by simp) rfl
    refine seg cfg3_ok mixed PanicFree.body 1000 [false] [] h9.rebase (by first | trivial | exact HpRep.nil | assumption) (by kernel_rfl) fun s_ hs_ => ?_
    simp (maxSteps := 10000000) [SX.vc, SX.stop, SX.contS, SX.contB, SX.contW, SX.contR, SX.contD, SX.sxStep, SX.stepPure, SX.stepNew, SX.stepStore, SX.stepKeep, SX.guardIx, SX.evOp, SX.opd, SX.opds, SX.optOpd, SX.look, SX.putS, SX.gobs, SX.AllP, SX.leave, SX.lookC, SX.lookB, SX.lookT, SX.lookN, SX.findK, SX.evBuiltin, SX.ints, SX.foldI, SX.evBin, SX.evInt, SX.evStr, SX.evEq, SX.arith, SX.evLoad, SX.shapeUp, SX.evFieldAddr, SX.evField, SX.evIndexAddr, SX.evIndex, SX.evFill, SX.evBuild, SX.szs, SX.cellsV, SX.evNew, SX.evStore, SX.spliceL, SX.SV.cells, SX.evConv, SX.evSlice, SX.bnd, SX.evNil, SX.evUn, SX.evPick, SX.pickOpd, SX.popTo, SX.cnd, SX.env0, SX.TD.isAgg, SX.TD.isIface, SX.tails, SX.NotAgg, SX.evLookup, SX.evConvH, SX.evPtrEq, SX.isCells, SX.thaw, SX.frz, SX.fixB, SX.rootIx, SX.Froz, SX.frzStep, SX.fork, Go.Value.cells, Go.undef, cfg3]
    refine ⟨by (unfold SX.Ob; first | trivial | omega | ((try simp only [SX.inK]); (try simp [SX.den, SX.IsU8, SX.AllP, *]); (try omega))), ?_⟩
    intro a10 w10 hr10' _
    have hr10 := h9.unbase hr10'
    have hS10 := hS9.keep (by simpa [mutB] using hr10'.keeps.toBelow)
    exact post_rnd (m - (k + 1)) (by omega) ⟨k + 1, rfl, hlt, hS10, hr10.re (by simp [envTo, SX.look, den]) trivial rfl rfl⟩
  obtain rfl : k = m := by omega
  rw [← mixN_zero] at hS6
  refine seg cfg3_ok mixed PanicFree.body 1000 [false] [] hr6.rebase (by first | trivial | exact HpRep.nil | assumption) (by kernel_rfl) fun s_ hs_ => ?_
  simp (maxSteps := 10000000) [SX.vc, SX.stop, SX.contS, SX.contB, SX.contW, SX.contR, SX.contD, SX.sxStep, SX.stepPure, SX.stepNew, SX.stepStore, SX.stepKeep, SX.guardIx, SX.evOp, SX.opd, SX.opds, SX.optOpd, SX.look, SX.putS, SX.gobs, SX.AllP, SX.leave, SX.lookC, SX.lookB, SX.lookT, SX.lookN, SX.findK, SX.evBuiltin, SX.ints, SX.foldI, SX.evBin, SX.evInt, SX.evStr, SX.evEq, SX.arith, SX.evLoad, SX.shapeUp, SX.evFieldAddr, SX.evField, SX.evIndexAddr, SX.evIndex, SX.evFill, SX.evBuild, SX.szs, SX.cellsV, SX.evNew, SX.evStore, SX.spliceL, SX.SV.cells, SX.evConv, SX.evSlice, SX.bnd, SX.evNil, SX.evUn, SX.evPick, SX.pickOpd, SX.popTo, SX.cnd, SX.env0, SX.TD.isAgg, SX.TD.isIface, SX.tails, SX.NotAgg, SX.evLookup, SX.evConvH, SX.evPtrEq, SX.isCells, SX.thaw, SX.frz, SX.fixB, SX.rootIx, SX.Froz, SX.frzStep, SX.fork, Go.Value.cells, Go.undef, cfg3]
  refine ⟨by (unfold SX.Ob; first | trivial | omega | ((try simp only [SX.inK]); (try simp [SX.den, SX.IsU8, SX.AllP, *]); (try omega))), ?_⟩
  intro a7 w7 hr7' _
  have hr7 := hr6.unbase hr7'
  have hS7 := hS6.keep (by simpa [mutB] using hr7'.keeps.toBelow)
  refine post_loop (RoomGet w c k j) k ⟨0, rfl, by omega, hS7, hr7.re (by simp [envTo, SX.look]) trivial rfl rfl⟩ ?_
  clear hr6 hr7 hr7' hS6 hS7
  rintro d a8 w8 ⟨p, rfl, hp, hS8, hr8⟩
  by_cases hlt : p < k
  · refine seg cfg3_ok mixed PanicFree.body 1000 [true] [] hr8.rebase (by first | trivial | exact HpRep.nil | assumption) (by kernel_rfl) fun s_ hs_ => ?_
    simp (maxSteps := 10000000) [SX.vc, SX.stop, SX.contS, SX.contB, SX.contW, SX.contR, SX.contD, SX.sxStep, SX.stepPure, SX.stepNew, SX.stepStore, SX.stepKeep, SX.guardIx, SX.evOp, SX.opd, SX.opds, SX.optOpd, SX.look, SX.putS, SX.gobs, SX.AllP, SX.leave, SX.lookC, SX.lookB, SX.lookT, SX.lookN, SX.findK, SX.evBuiltin, SX.ints, SX.foldI, SX.evBin, SX.evInt, SX.evStr, SX.evEq, SX.arith, SX.evLoad, SX.shapeUp, SX.evFieldAddr, SX.evField, SX.evIndexAddr, SX.evIndex, SX.evFill, SX.evBuild, SX.szs, SX.cellsV, SX.evNew, SX.evStore, SX.spliceL, SX.SV.cells, SX.evConv, SX.evSlice, SX.bnd, SX.evNil, SX.evUn, SX.evPick, SX.pickOpd, SX.popTo, SX.cnd, SX.env0, SX.TD.isAgg, SX.TD.isIface, SX.tails, SX.NotAgg, SX.evLookup, SX.evConvH, SX.evPtrEq, SX.isCells, SX.thaw, SX.frz, SX.fixB, SX.rootIx, SX.Froz, SX.frzStep, SX.fork, Go.Value.cells, Go.undef, cfg3]
    refine ⟨by (unfold SX.Ob; first | trivial | omega | ((try simp only [SX.inK]); (try simp [SX.den, SX.IsU8, SX.AllP, *]); (try omega))), ?_⟩
    intro a9 w9 hr9' _
    have hr9 := hr8.unbase hr9'
    have hS9 := hS8.keep (by simpa [mutB] using hr9'.keeps.toBelow)
    have hfd : findL (p : Int) ((mixN k p).map fIt) = some (fIt p) := by rw [findL_map, if_pos ((mixN_mem hp).2 hlt)]
    refine post_call 10 [.ptr 0 c 0, .v (.int .i64 p), .v (.int .i64 (p + 1))] hr9 (wanted_none rfl) rfl (callable 10 Try.func10) (get_okS _ w9 c _ _ _ _ hS9 p (p + 1) (by unfold inK; omega) (by unfold inK; omega)) ?_
    rintro e w10 ⟨hk10, hcase⟩
    rcases hcase with ⟨x, b', cap', hf, hv, rfl, hsz, ⟨u, hB10⟩, hS10⟩ | ⟨hno, _⟩
    rotate_left
    · exact absurd rfl (hno _ hfd)
    obtain rfl : fIt p = x := by rw [hfd] at hf; simpa using hf
    refine ⟨_, rfl, ?_⟩
    have h10 := hr9.retC hk10 (fun _ h => h) 55 (.tu [.sl 0 b' 0 0 16 cap' 1, .v (.bool true)]) rfl [(b', false, .arr 0 16 (fun j => [.v (.int .u8 (tx p j))]) 1 u (0, 0))] ⟨⟨hB10, by simp, by simp⟩, trivial⟩ (by simp) rfl
    have hS10 := hS10.mono fun x _ h => h.1
    rw [get_mix] at hS10
    refine seg cfg3_ok mixed PanicFree.body 1000 [] [(60, false)] h10.rebase (by first | trivial | exact HpRep.nil | assumption) (by kernel_rfl) fun s_ hs_ => ?_
    simp (maxSteps := 10000000) [SX.vc, SX.stop, SX.contS, SX.contB, SX.contW, SX.contR, SX.contD, SX.sxStep, SX.stepPure, SX.stepNew, SX.stepStore, SX.stepKeep, SX.guardIx, SX.evOp, SX.opd, SX.opds, SX.optOpd, SX.look, SX.putS, SX.gobs, SX.AllP, SX.leave, SX.lookC, SX.lookB, SX.lookT, SX.lookN, SX.findK, SX.evBuiltin, SX.ints, SX.foldI, SX.evBin, SX.evInt, SX.evStr, SX.evEq, SX.arith, SX.evLoad, SX.shapeUp, SX.evFieldAddr, SX.evField, SX.evIndexAddr, SX.evIndex, SX.evFill, SX.evBuild, SX.szs, SX.cellsV, SX.evNew, SX.evStore, SX.spliceL, SX.SV.cells, SX.evConv, SX.evSlice, SX.bnd, SX.evNil, SX.evUn, SX.evPick, SX.pickOpd, SX.popTo, SX.cnd, SX.env0, SX.TD.isAgg, SX.TD.isIface, SX.tails, SX.NotAgg, SX.evLookup, SX.evConvH, SX.evPtrEq, SX.isCells, SX.thaw, SX.frz, SX.fixB, SX.rootIx, SX.Froz, SX.frzStep, SX.fork, Go.Value.cells, Go.undef, cfg3]
    refine ⟨by (unfold SX.Ob; first | trivial | omega | ((try simp only [SX.inK]); (try simp [SX.den, SX.IsU8, SX.AllP, *]); (try omega))), ?_⟩
    intro a11 w11 hr11' ht11
    have hr11 := h10.unbase hr11'
    have hS11 := hS10.keep (by simpa [mutB] using hr11'.keeps.toBelow)
    refine post_callD 9 [.v (.int .i64 p)] hr11 rfl (wanted_zero (hr11.env.same rfl rfl rfl rfl) rfl (by simp)) rfl (callable 9 Try.func9) (text_ok w11 p (by unfold inK; omega)) ?_
    rintro e w12 ⟨tb, rfl, htb, hB12, hb12⟩
    have ht12 := HpRep_below ht11 hb12
    refine ⟨_, rfl, ht12, ?_⟩
    have hA11 := hr11.all
    have h12 := hr11.ret hb12 64 (.sl 1 tb 0 0 16 16 1) rfl [(b', false, .arr 0 16 (fun j => [.v (.int .u8 (tx p j))]) 1 u (0, 0)), (tb, false, .arr 0 16 (fun j => [.v (.int .u8 (tx p j))]) 1 5 (0, 0))] (HpAll.append (hr11.all.below hb12) hB12 (by simp) (by
      intro e he
      simp at he
      subst he
      have := SO.rep_lt hA11.1.1
      simp only
      omega)) (by simp) rfl
    have hS12 := hS11.keep hb12
    refine seg cfg3_ok mixed PanicFree.body 1000 [false] [(60, false)] h12.rebase (by first | trivial | exact HpRep.nil | assumption) (by kernel_rfl) fun s_ hs_ => ?_
    simp (maxSteps := 10000000) [SX.vc, SX.stop, SX.contS, SX.contB, SX.contW, SX.contR, SX.contD, SX.sxStep, SX.stepPure, SX.stepNew, SX.stepStore, SX.stepKeep, SX.guardIx, SX.evOp, SX.opd, SX.opds, SX.optOpd, SX.look, SX.putS, SX.gobs, SX.AllP, SX.leave, SX.lookC, SX.lookB, SX.lookT, SX.lookN, SX.findK, SX.evBuiltin, SX.ints, SX.foldI, SX.evBin, SX.evInt, SX.evStr, SX.evEq, SX.arith, SX.evLoad, SX.shapeUp, SX.evFieldAddr, SX.evField, SX.evIndexAddr, SX.evIndex, SX.evFill, SX.evBuild, SX.szs, SX.cellsV, SX.evNew, SX.evStore, SX.spliceL, SX.SV.cells, SX.evConv, SX.evSlice, SX.bnd, SX.evNil, SX.evUn, SX.evPick, SX.pickOpd, SX.popTo, SX.cnd, SX.env0, SX.TD.isAgg, SX.TD.isIface, SX.tails, SX.NotAgg, SX.evLookup, SX.evConvH, SX.evPtrEq, SX.isCells, SX.thaw, SX.frz, SX.fixB, SX.rootIx, SX.Froz, SX.frzStep, SX.fork, Go.Value.cells, Go.undef, cfg3]
    refine ⟨by (unfold SX.Ob; first | trivial | omega | ((try simp only [SX.inK]); (try simp [SX.den, SX.IsU8, SX.AllP, *]); (try omega))), ?_⟩
    intro a13 w13 hr13' _
    have hr13 := h12.unbase hr13'
    have hS13 := hS12.keep (by simpa [mutB] using hr13'.keeps.toBelow)
    exact post_rnd (k - (p + 1)) (by omega) ⟨p + 1, rfl, hlt, hS13, hr13.re (by simp [envTo, SX.look, den]) trivial rfl rfl⟩
  obtain rfl : p = k := by omega
  rw [mixN_full] at hS8
  refine seg cfg3_ok mixed PanicFree.body 1000 [false] [] hr8.rebase (by first | trivial | exact HpRep.nil | assumption) (by kernel_rfl) fun s_ hs_ => ?_
  simp (maxSteps := 10000000) [SX.vc, SX.stop, SX.contS, SX.contB, SX.contW, SX.contR, SX.contD, SX.sxStep, SX.stepPure, SX.stepNew, SX.stepStore, SX.stepKeep, SX.guardIx, SX.evOp, SX.opd, SX.opds, SX.optOpd, SX.look, SX.putS, SX.gobs, SX.AllP, SX.leave, SX.lookC, SX.lookB, SX.lookT, SX.lookN, SX.findK, SX.evBuiltin, SX.ints, SX.foldI, SX.evBin, SX.evInt, SX.evStr, SX.evEq, SX.arith, SX.evLoad, SX.shapeUp, SX.evFieldAddr, SX.evField, SX.evIndexAddr, SX.evIndex, SX.evFill, SX.evBuild, SX.szs, SX.cellsV, SX.evNew, SX.evStore, SX.spliceL, SX.SV.cells, SX.evConv, SX.evSlice, SX.bnd, SX.evNil, SX.evUn, SX.evPick, SX.pickOpd, SX.popTo, SX.cnd, SX.env0, SX.TD.isAgg, SX.TD.isIface, SX.tails, SX.NotAgg, SX.evLookup, SX.evConvH, SX.evPtrEq, SX.isCells, SX.thaw, SX.frz, SX.fixB, SX.rootIx, SX.Froz, SX.frzStep, SX.fork, Go.Value.cells, Go.undef, cfg3]
  refine ⟨by (unfold SX.Ob; first | trivial | omega | ((try simp only [SX.inK]); (try simp [SX.den, SX.IsU8, SX.AllP, *]); (try omega))), ?_⟩
  intro a9 w9 hr9' _
  have hr9 := hr8.unbase hr9'
  have hS9 := hS8.keep (by simpa [mutB] using hr9'.keeps.toBelow)
  have hfd : findL (j : Int) ((downN p).map fIt) = some (fIt j) := by rw [findL_map, if_pos (downN_mem.2 hj2)]
  refine post_call 10 [.ptr 0 c 0, .v (.int .i64 j), .v (.int .i64 (j + 1))] hr9 (wanted_none rfl) rfl (callable 10 Try.func10) (get_okS _ w9 c _ _ _ _ hS9 j (j + 1) (by unfold inK; omega) (by unfold inK; omega)) ?_
  rintro e w10 ⟨hk10, hcase⟩
  rcases hcase with ⟨x, b', cap', hf, hv, rfl, hsz, ⟨u, hB10⟩, hS10⟩ | ⟨hno, _⟩
  rotate_left
  · exact absurd rfl (hno _ hfd)
  obtain rfl : fIt j = x := by rw [hfd] at hf; simpa using hf
  refine ⟨_, rfl, ?_⟩
  have h10 := hr9.retC hk10 (fun _ h => h) 73 (.tu [.v (.slice (some ⟨b', 0, none⟩) 16 cap'), .v (.bool true)]) rfl [] trivial (by simp) rfl
  have hS10 := hS10.mono fun x _ h => h.1
  obtain ⟨F, hF1, hF2, hF3, hF4, hF5, hF6, e7⟩ := room_end p j hm2 hj2
  have hn0 := room_none p j hF1 hF2 hF3
  have hn1 := room_some p j (F := F) hj2
  clear hr8 hr9 hr9' hS8 hS9 hy1 hy2 hj hfd
  by_cases hj0 : j = 0
  · have hf1 : (firstN j : Int) = 1 := by simp [firstN, hj0]
    rw [hf1] at hn0
    subst hj0
    replace hn1 : findL (0 : Int) (itm p 1 9 :: (0 :: F).map fIt) = some (fIt 0) := hn1
    refine seg cfg3_ok mixed PanicFree.body 1000 [true] [] h10.rebase (by first | trivial | exact HpRep.nil | assumption) (by kernel_rfl) fun s_ hs_ => ?_
    simp (maxSteps := 10000000) [SX.vc, SX.stop, SX.contS, SX.contB, SX.contW, SX.contR, SX.contD, SX.sxStep, SX.stepPure, SX.stepNew, SX.stepStore, SX.stepKeep, SX.guardIx, SX.evOp, SX.opd, SX.opds, SX.optOpd, SX.look, SX.putS, SX.gobs, SX.AllP, SX.leave, SX.lookC, SX.lookB, SX.lookT, SX.lookN, SX.findK, SX.evBuiltin, SX.ints, SX.foldI, SX.evBin, SX.evInt, SX.evStr, SX.evEq, SX.arith, SX.evLoad, SX.shapeUp, SX.evFieldAddr, SX.evField, SX.evIndexAddr, SX.evIndex, SX.evFill, SX.evBuild, SX.szs, SX.cellsV, SX.evNew, SX.evStore, SX.spliceL, SX.SV.cells, SX.evConv, SX.evSlice, SX.bnd, SX.evNil, SX.evUn, SX.evPick, SX.pickOpd, SX.popTo, SX.cnd, SX.env0, SX.TD.isAgg, SX.TD.isIface, SX.tails, SX.NotAgg, SX.evLookup, SX.evConvH, SX.evPtrEq, SX.isCells, SX.thaw, SX.frz, SX.fixB, SX.rootIx, SX.Froz, SX.frzStep, SX.fork, Go.Value.cells, Go.undef, cfg3]
    refine ⟨by (unfold SX.Ob; first | trivial | omega | ((try simp only [SX.inK]); (try simp [SX.den, SX.IsU8, SX.AllP, *]); (try omega))), ?_⟩
    intro a20 w20 hr20' _
    have hr20 := h10.unbase hr20'
    have hS20 := hS10.keep (by simpa [mutB] using hr20'.keeps.toBelow)
    refine post_call 9 [.v (.int .i64 9)] hr20 (wanted_none rfl) rfl (callable 9 Try.func9) (text_ok w20 9 (by unfold inK; omega)) ?_
    rintro e w21 ⟨tb, rfl, htb, hB21, hb21⟩
    refine ⟨_, rfl, ?_⟩
    have h21 := hr20.ret hb21 78 (.v (.slice (some ⟨tb, 0, none⟩) 16 16)) rfl [] trivial (by simp) rfl
    refine post_call 8 [.ptr 0 c 0, .v (.int .i64 p), .v (.int .i64 1), .v (.slice (some ⟨tb, 0, none⟩) 16 16)] h21 (wanted_none rfl) rfl (callable 8 Try.func8) (put_fresh hS20 hb21 (live_tail w20 _ hr20.keeps.size) (itm p 1 9) (by simp [itm]) (by simp [itm]) tb 16 htb ⟨5, hB21⟩) ?_
    rintro e w22 ⟨rfl, hk22, hS22⟩
    refine ⟨_, rfl, ?_⟩
    rw [e7] at hS22
    have h22 := h21.retC hk22 (fun _ h => h) 79 (.v (.int .i64 0)) rfl [] trivial (by simp) rfl
    refine seg cfg3_ok mixed PanicFree.body 1000 [false] [] h22.rebase (by first | trivial | exact HpRep.nil | assumption) (by kernel_rfl) fun s_ hs_ => ?_
    simp (maxSteps := 10000000) [SX.vc, SX.stop, SX.contS, SX.contB, SX.contW, SX.contR, SX.contD, SX.sxStep, SX.stepPure, SX.stepNew, SX.stepStore, SX.stepKeep, SX.guardIx, SX.evOp, SX.opd, SX.opds, SX.optOpd, SX.look, SX.putS, SX.gobs, SX.AllP, SX.leave, SX.lookC, SX.lookB, SX.lookT, SX.lookN, SX.findK, SX.evBuiltin, SX.ints, SX.foldI, SX.evBin, SX.evInt, SX.evStr, SX.evEq, SX.arith, SX.evLoad, SX.shapeUp, SX.evFieldAddr, SX.evField, SX.evIndexAddr, SX.evIndex, SX.evFill, SX.evBuild, SX.szs, SX.cellsV, SX.evNew, SX.evStore, SX.spliceL, SX.SV.cells, SX.evConv, SX.evSlice, SX.bnd, SX.evNil, SX.evUn, SX.evPick, SX.pickOpd, SX.popTo, SX.cnd, SX.env0, SX.TD.isAgg, SX.TD.isIface, SX.tails, SX.NotAgg, SX.evLookup, SX.evConvH, SX.evPtrEq, SX.isCells, SX.thaw, SX.frz, SX.fixB, SX.rootIx, SX.Froz, SX.frzStep, SX.fork, Go.Value.cells, Go.undef, cfg3]
    refine ⟨by (unfold SX.Ob; first | trivial | omega | ((try simp only [SX.inK]); (try simp [SX.den, SX.IsU8, SX.AllP, *]); (try omega))), ?_⟩
    intro a23 w23 hr23' _
    have hr23 := h22.unbase hr23'
    have hS23 := hS22.keep (by simpa [mutB] using hr23'.keeps.toBelow)
    refine post_call 10 [.ptr 0 c 0, .v (.int .i64 1), .v (.int .i64 (1 + 1))] hr23 (wanted_none rfl) rfl (callable 10 Try.func10) (get_okS _ w23 c _ _ _ _ hS23 1 (1 + 1) (by unfold inK; omega) (by unfold inK; omega)) ?_
    rintro e w24 ⟨hk24, hcase⟩
    rcases hcase with ⟨x, b', cap', hf, _⟩ | ⟨_, rfl, hS24⟩
    · rw [hn0] at hf; cases hf
    refine ⟨_, rfl, ?_⟩
    have h24 := hr23.retC hk24 (fun _ h => h) 86 (.tu [.v (.slice none 0 0), .v (.bool false)]) rfl [] trivial (by simp) rfl
    refine seg cfg3_ok mixed PanicFree.body 1000 [] [] h24.rebase (by first | trivial | exact HpRep.nil | assumption) (by kernel_rfl) fun s_ hs_ => ?_
    simp (maxSteps := 10000000) [SX.vc, SX.stop, SX.contS, SX.contB, SX.contW, SX.contR, SX.contD, SX.sxStep, SX.stepPure, SX.stepNew, SX.stepStore, SX.stepKeep, SX.guardIx, SX.evOp, SX.opd, SX.opds, SX.optOpd, SX.look, SX.putS, SX.gobs, SX.AllP, SX.leave, SX.lookC, SX.lookB, SX.lookT, SX.lookN, SX.findK, SX.evBuiltin, SX.ints, SX.foldI, SX.evBin, SX.evInt, SX.evStr, SX.evEq, SX.arith, SX.evLoad, SX.shapeUp, SX.evFieldAddr, SX.evField, SX.evIndexAddr, SX.evIndex, SX.evFill, SX.evBuild, SX.szs, SX.cellsV, SX.evNew, SX.evStore, SX.spliceL, SX.SV.cells, SX.evConv, SX.evSlice, SX.bnd, SX.evNil, SX.evUn, SX.evPick, SX.pickOpd, SX.popTo, SX.cnd, SX.env0, SX.TD.isAgg, SX.TD.isIface, SX.tails, SX.NotAgg, SX.evLookup, SX.evConvH, SX.evPtrEq, SX.isCells, SX.thaw, SX.frz, SX.fixB, SX.rootIx, SX.Froz, SX.frzStep, SX.fork, Go.Value.cells, Go.undef, cfg3]
    refine ⟨by (unfold SX.Ob; first | trivial | omega | ((try simp only [SX.inK]); (try simp [SX.den, SX.IsU8, SX.AllP, *]); (try omega))), ?_⟩
    intro a25 w25 hr25' _
    have hr25 := h24.unbase hr25'
    have hS25 := hS24.keep (by simpa [mutB] using hr25'.keeps.toBelow)
    refine post_call 10 [.ptr 0 c 0, .v (.int .i64 0), .v (.int .i64 (0 + 1))] hr25 (wanted_none rfl) rfl (callable 10 Try.func10) (get_okS _ w25 c _ _ _ _ hS25 0 (0 + 1) (by unfold inK; omega) (by unfold inK; omega)) ?_
    rintro e w26 ⟨hk26, hcase⟩
    rcases hcase with ⟨x, b', cap', hf, hv, rfl, hsz, hB26, hS26⟩ | ⟨hno, _⟩
    rotate_left
    · exact absurd rfl (hno _ hn1)
    obtain rfl : fIt 0 = x := by rw [hn1] at hf; simpa using hf
    refine ⟨_, rfl, ?_⟩
    have hS26 := hS26.mono fun x _ h => h.1
    have h26 := hr25.retC hk26 (fun _ h => h) 94 (.tu [.v (.slice (some ⟨b', 0, none⟩) 16 cap'), .v (.bool true)]) rfl [] trivial (by simp) rfl
    refine seg cfg3_ok mixed PanicFree.body 1000 [] [] h26.rebase (by first | trivial | exact HpRep.nil | assumption) (by kernel_rfl) fun s_ hs_ => ?_
    simp (maxSteps := 10000000) [SX.vc, SX.stop, SX.contS, SX.contB, SX.contW, SX.contR, SX.contD, SX.sxStep, SX.stepPure, SX.stepNew, SX.stepStore, SX.stepKeep, SX.guardIx, SX.evOp, SX.opd, SX.opds, SX.optOpd, SX.look, SX.putS, SX.gobs, SX.AllP, SX.leave, SX.lookC, SX.lookB, SX.lookT, SX.lookN, SX.findK, SX.evBuiltin, SX.ints, SX.foldI, SX.evBin, SX.evInt, SX.evStr, SX.evEq, SX.arith, SX.evLoad, SX.shapeUp, SX.evFieldAddr, SX.evField, SX.evIndexAddr, SX.evIndex, SX.evFill, SX.evBuild, SX.szs, SX.cellsV, SX.evNew, SX.evStore, SX.spliceL, SX.SV.cells, SX.evConv, SX.evSlice, SX.bnd, SX.evNil, SX.evUn, SX.evPick, SX.pickOpd, SX.popTo, SX.cnd, SX.env0, SX.TD.isAgg, SX.TD.isIface, SX.tails, SX.NotAgg, SX.evLookup, SX.evConvH, SX.evPtrEq, SX.isCells, SX.thaw, SX.frz, SX.fixB, SX.rootIx, SX.Froz, SX.frzStep, SX.fork, Go.Value.cells, Go.undef, cfg3]
    refine ⟨by (unfold SX.Ob; first | trivial | omega | ((try simp only [SX.inK]); (try simp [SX.den, SX.IsU8, SX.AllP, *]); (try omega))), ?_⟩
    intro a27 w27 hr27' _
    have hr27 := h26.unbase hr27'
    have hS27 := hS26.keep (by simpa [mutB] using hr27'.keeps.toBelow)
    refine post_call 11 [.ptr 0 c 0] hr27 (wanted_none rfl) rfl (callable 11 Try.func11) (hits_okS _ w27 c _ _ _ _ hS27) ?_
    rintro e w28 ⟨rfl, hb28⟩
    refine ⟨_, rfl, ?_⟩
    have hS28 := hS27.keep hb28
    have h28 := hr27.ret hb28 99 (.tu [.v (.int .i64 (p + 1 + 1)), .v (.int .i64 (0 + 1))]) rfl [] trivial (by simp) rfl
    refine seg cfg3_ok mixed PanicFree.body 1000 [] [(103, true), (107, true), (110, true), (116, true), (120, true)] h28.rebase (by first | trivial | exact HpRep.nil | assumption) (by kernel_rfl) fun s_ hs_ => ?_
    simp (maxSteps := 10000000) [SX.vc, SX.stop, SX.contS, SX.contB, SX.contW, SX.contR, SX.contD, SX.sxStep, SX.stepPure, SX.stepNew, SX.stepStore, SX.stepKeep, SX.guardIx, SX.evOp, SX.opd, SX.opds, SX.optOpd, SX.look, SX.putS, SX.gobs, SX.AllP, SX.leave, SX.lookC, SX.lookB, SX.lookT, SX.lookN, SX.findK, SX.evBuiltin, SX.ints, SX.foldI, SX.evBin, SX.evInt, SX.evStr, SX.evEq, SX.arith, SX.evLoad, SX.shapeUp, SX.evFieldAddr, SX.evField, SX.evIndexAddr, SX.evIndex, SX.evFill, SX.evBuild, SX.szs, SX.cellsV, SX.evNew, SX.evStore, SX.spliceL, SX.SV.cells, SX.evConv, SX.evSlice, SX.bnd, SX.evNil, SX.evUn, SX.evPick, SX.pickOpd, SX.popTo, SX.cnd, SX.env0, SX.TD.isAgg, SX.TD.isIface, SX.tails, SX.NotAgg, SX.evLookup, SX.evConvH, SX.evPtrEq, SX.isCells, SX.thaw, SX.frz, SX.fixB, SX.rootIx, SX.Froz, SX.frzStep, SX.fork, Go.Value.cells, Go.undef, cfg3]
    refine ⟨by (unfold SX.Ob; first | trivial | omega | ((try simp only [SX.inK]); (try simp [SX.den, SX.IsU8, SX.AllP, *]); (try omega))), ?_⟩
    intro a29 w29 hr29' _
    have hr29 := h28.unbase hr29'
    have hS29 := hS28.keep (by simpa [mutB] using hr29'.keeps.toBelow)
    have hle : (fIt 0 :: othersL (0 : Int) (itm p 1 9 :: (0 :: F).map fIt)).length = p := (room_len p 0 hF4 hj2).trans hF6
    refine post_call 12 [.ptr 0 c 0] hr29 (wanted_zero (hr29.env.same rfl rfl rfl rfl) rfl (by simp)) rfl (callable 12 Try.func12) (keys_okS _ w29 c _ _ _ _ hS29 (by omega)) ?_
    rintro e w30 ⟨x, H, hx, rfl, hH, hb30⟩
    refine ⟨_, rfl, ?_⟩
    rw [KeySlS, hle] at hx
    rcases hx with ⟨h0, _⟩ | ⟨b, cap, N, row, u, h0, hB, rfl, rfl, _⟩
    · omega
    have h30 := hr29.ret hb30 122 (.sl 0 b 0 0 p cap 2) rfl [(b, false, .arr 0 N row 2 u (0, 0))] ⟨⟨hH.1.1, by simp, by simp⟩, trivial⟩ (by simp) rfl
    refine seg cfg3_ok mixed PanicFree.body 1000 [] [(103, true), (107, true), (110, true), (116, true), (120, true)] h30 (by first | trivial | exact HpRep.nil | assumption) (by kernel_rfl) fun s_ hs_ => ?_
    simp (maxSteps := 10000000) [SX.vc, SX.stop, SX.contS, SX.contB, SX.contW, SX.contR, SX.contD, SX.sxStep, SX.stepPure, SX.stepNew, SX.stepStore, SX.stepKeep, SX.guardIx, SX.evOp, SX.opd, SX.opds, SX.optOpd, SX.look, SX.putS, SX.gobs, SX.AllP, SX.leave, SX.lookC, SX.lookB, SX.lookT, SX.lookN, SX.findK, SX.evBuiltin, SX.ints, SX.foldI, SX.evBin, SX.evInt, SX.evStr, SX.evEq, SX.arith, SX.evLoad, SX.shapeUp, SX.evFieldAddr, SX.evField, SX.evIndexAddr, SX.evIndex, SX.evFill, SX.evBuild, SX.szs, SX.cellsV, SX.evNew, SX.evStore, SX.spliceL, SX.SV.cells, SX.evConv, SX.evSlice, SX.bnd, SX.evNil, SX.evUn, SX.evPick, SX.pickOpd, SX.popTo, SX.cnd, SX.env0, SX.TD.isAgg, SX.TD.isIface, SX.tails, SX.NotAgg, SX.evLookup, SX.evConvH, SX.evPtrEq, SX.isCells, SX.thaw, SX.frz, SX.fixB, SX.rootIx, SX.Froz, SX.frzStep, SX.fork, Go.Value.cells, Go.undef, cfg3]
    refine ⟨by (unfold SX.Ob; first | trivial | omega | ((try simp only [SX.inK]); (try simp [SX.den, SX.IsU8, SX.AllP, *]); (try omega))), ?_⟩
    intro a31 w31 hr31 _
    exact post_retn (end1 hr31 rfl rfl ⟨by simp [den], hr31.keeps.toBelow⟩).1
  · have hf1 : (firstN j : Int) = 0 := by simp [firstN, hj0]
    rw [hf1] at hn0
    refine seg cfg3_ok mixed PanicFree.body 1000 [false] [] h10.rebase (by first | trivial | exact HpRep.nil | assumption) (by kernel_rfl) fun s_ hs_ => ?_
    simp (maxSteps := 10000000) [SX.vc, SX.stop, SX.contS, SX.contB, SX.contW, SX.contR, SX.contD, SX.sxStep, SX.stepPure, SX.stepNew, SX.stepStore, SX.stepKeep, SX.guardIx, SX.evOp, SX.opd, SX.opds, SX.optOpd, SX.look, SX.putS, SX.gobs, SX.AllP, SX.leave, SX.lookC, SX.lookB, SX.lookT, SX.lookN, SX.findK, SX.evBuiltin, SX.ints, SX.foldI, SX.evBin, SX.evInt, SX.evStr, SX.evEq, SX.arith, SX.evLoad, SX.shapeUp, SX.evFieldAddr, SX.evField, SX.evIndexAddr, SX.evIndex, SX.evFill, SX.evBuild, SX.szs, SX.cellsV, SX.evNew, SX.evStore, SX.spliceL, SX.SV.cells, SX.evConv, SX.evSlice, SX.bnd, SX.evNil, SX.evUn, SX.evPick, SX.pickOpd, SX.popTo, SX.cnd, SX.env0, SX.TD.isAgg, SX.TD.isIface, SX.tails, SX.NotAgg, SX.evLookup, SX.evConvH, SX.evPtrEq, SX.isCells, SX.thaw, SX.frz, SX.fixB, SX.rootIx, SX.Froz, SX.frzStep, SX.fork, Go.Value.cells, Go.undef, cfg3, hj0]
    refine ⟨by (unfold SX.Ob; first | trivial | omega | ((try simp only [SX.inK]); (try simp [SX.den, SX.IsU8, SX.AllP, *]); (try omega))), ?_⟩
    intro a20 w20 hr20' _
    have hr20 := h10.unbase hr20'
    have hS20 := hS10.keep (by simpa [mutB] using hr20'.keeps.toBelow)
    refine post_call 9 [.v (.int .i64 9)] hr20 (wanted_none rfl) rfl (callable 9 Try.func9) (text_ok w20 9 (by unfold inK; omega)) ?_
    rintro e w21 ⟨tb, rfl, htb, hB21, hb21⟩
    refine ⟨_, rfl, ?_⟩
    have h21 := hr20.ret hb21 78 (.v (.slice (some ⟨tb, 0, none⟩) 16 16)) rfl [] trivial (by simp) rfl
    refine post_call 8 [.ptr 0 c 0, .v (.int .i64 p), .v (.int .i64 1), .v (.slice (some ⟨tb, 0, none⟩) 16 16)] h21 (wanted_none rfl) rfl (callable 8 Try.func8) (put_fresh hS20 hb21 (live_tail w20 _ hr20.keeps.size) (itm p 1 9) (by simp [itm]) (by simp [itm]) tb 16 htb ⟨5, hB21⟩) ?_
    rintro e w22 ⟨rfl, hk22, hS22⟩
    refine ⟨_, rfl, ?_⟩
    rw [e7] at hS22
    have h22 := h21.retC hk22 (fun _ h => h) 79 (.v (.int .i64 0)) rfl [] trivial (by simp) rfl
    refine seg cfg3_ok mixed PanicFree.body 1000 [false] [] h22.rebase (by first | trivial | exact HpRep.nil | assumption) (by kernel_rfl) fun s_ hs_ => ?_
    simp (maxSteps := 10000000) [SX.vc, SX.stop, SX.contS, SX.contB, SX.contW, SX.contR, SX.contD, SX.sxStep, SX.stepPure, SX.stepNew, SX.stepStore, SX.stepKeep, SX.guardIx, SX.evOp, SX.opd, SX.opds, SX.optOpd, SX.look, SX.putS, SX.gobs, SX.AllP, SX.leave, SX.lookC, SX.lookB, SX.lookT, SX.lookN, SX.findK, SX.evBuiltin, SX.ints, SX.foldI, SX.evBin, SX.evInt, SX.evStr, SX.evEq, SX.arith, SX.evLoad, SX.shapeUp, SX.evFieldAddr, SX.evField, SX.evIndexAddr, SX.evIndex, SX.evFill, SX.evBuild, SX.szs, SX.cellsV, SX.evNew, SX.evStore, SX.spliceL, SX.SV.cells, SX.evConv, SX.evSlice, SX.bnd, SX.evNil, SX.evUn, SX.evPick, SX.pickOpd, SX.popTo, SX.cnd, SX.env0, SX.TD.isAgg, SX.TD.isIface, SX.tails, SX.NotAgg, SX.evLookup, SX.evConvH, SX.evPtrEq, SX.isCells, SX.thaw, SX.frz, SX.fixB, SX.rootIx, SX.Froz, SX.frzStep, SX.fork, Go.Value.cells, Go.undef, cfg3]
    refine ⟨by (unfold SX.Ob; first | trivial | omega | ((try simp only [SX.inK]); (try simp [SX.den, SX.IsU8, SX.AllP, *]); (try omega))), ?_⟩
    intro a23 w23 hr23' _
    have hr23 := h22.unbase hr23'
    have hS23 := hS22.keep (by simpa [mutB] using hr23'.keeps.toBelow)
    refine post_call 10 [.ptr 0 c 0, .v (.int .i64 0), .v (.int .i64 (0 + 1))] hr23 (wanted_none rfl) rfl (callable 10 Try.func10) (get_okS _ w23 c _ _ _ _ hS23 0 (0 + 1) (by unfold inK; omega) (by unfold inK; omega)) ?_
    rintro e w24 ⟨hk24, hcase⟩
    rcases hcase with ⟨x, b', cap', hf, _⟩ | ⟨_, rfl, hS24⟩
    · rw [hn0] at hf; cases hf
    refine ⟨_, rfl, ?_⟩
    have h24 := hr23.retC hk24 (fun _ h => h) 86 (.tu [.v (.slice none 0 0), .v (.bool false)]) rfl [] trivial (by simp) rfl
    refine seg cfg3_ok mixed PanicFree.body 1000 [] [] h24.rebase (by first | trivial | exact HpRep.nil | assumption) (by kernel_rfl) fun s_ hs_ => ?_
    simp (maxSteps := 10000000) [SX.vc, SX.stop, SX.contS, SX.contB, SX.contW, SX.contR, SX.contD, SX.sxStep, SX.stepPure, SX.stepNew, SX.stepStore, SX.stepKeep, SX.guardIx, SX.evOp, SX.opd, SX.opds, SX.optOpd, SX.look, SX.putS, SX.gobs, SX.AllP, SX.leave, SX.lookC, SX.lookB, SX.lookT, SX.lookN, SX.findK, SX.evBuiltin, SX.ints, SX.foldI, SX.evBin, SX.evInt, SX.evStr, SX.evEq, SX.arith, SX.evLoad, SX.shapeUp, SX.evFieldAddr, SX.evField, SX.evIndexAddr, SX.evIndex, SX.evFill, SX.evBuild, SX.szs, SX.cellsV, SX.evNew, SX.evStore, SX.spliceL, SX.SV.cells, SX.evConv, SX.evSlice, SX.bnd, SX.evNil, SX.evUn, SX.evPick, SX.pickOpd, SX.popTo, SX.cnd, SX.env0, SX.TD.isAgg, SX.TD.isIface, SX.tails, SX.NotAgg, SX.evLookup, SX.evConvH, SX.evPtrEq, SX.isCells, SX.thaw, SX.frz, SX.fixB, SX.rootIx, SX.Froz, SX.frzStep, SX.fork, Go.Value.cells, Go.undef, cfg3]
    refine ⟨by (unfold SX.Ob; first | trivial | omega | ((try simp only [SX.inK]); (try simp [SX.den, SX.IsU8, SX.AllP, *]); (try omega))), ?_⟩
    intro a25 w25 hr25' _
    have hr25 := h24.unbase hr25'
    have hS25 := hS24.keep (by simpa [mutB] using hr25'.keeps.toBelow)
    refine post_call 10 [.ptr 0 c 0, .v (.int .i64 j), .v (.int .i64 (j + 1))] hr25 (wanted_none rfl) rfl (callable 10 Try.func10) (get_okS _ w25 c _ _ _ _ hS25 j (j + 1) (by unfold inK; omega) (by unfold inK; omega)) ?_
    rintro e w26 ⟨hk26, hcase⟩
    rcases hcase with ⟨x, b', cap', hf, hv, rfl, hsz, hB26, hS26⟩ | ⟨hno, _⟩
    rotate_left
    · exact absurd rfl (hno _ hn1)
    obtain rfl : fIt j = x := by rw [hn1] at hf; simpa using hf
    refine ⟨_, rfl, ?_⟩
    have hS26 := hS26.mono fun x _ h => h.1
    have h26 := hr25.retC hk26 (fun _ h => h) 94 (.tu [.v (.slice (some ⟨b', 0, none⟩) 16 cap'), .v (.bool true)]) rfl [] trivial (by simp) rfl
    refine seg cfg3_ok mixed PanicFree.body 1000 [] [] h26.rebase (by first | trivial | exact HpRep.nil | assumption) (by kernel_rfl) fun s_ hs_ => ?_
    simp (maxSteps := 10000000) [SX.vc, SX.stop, SX.contS, SX.contB, SX.contW, SX.contR, SX.contD, SX.sxStep, SX.stepPure, SX.stepNew, SX.stepStore, SX.stepKeep, SX.guardIx, SX.evOp, SX.opd, SX.opds, SX.optOpd, SX.look, SX.putS, SX.gobs, SX.AllP, SX.leave, SX.lookC, SX.lookB, SX.lookT, SX.lookN, SX.findK, SX.evBuiltin, SX.ints, SX.foldI, SX.evBin, SX.evInt, SX.evStr, SX.evEq, SX.arith, SX.evLoad, SX.shapeUp, SX.evFieldAddr, SX.evField, SX.evIndexAddr, SX.evIndex, SX.evFill, SX.evBuild, SX.szs, SX.cellsV, SX.evNew, SX.evStore, SX.spliceL, SX.SV.cells, SX.evConv, SX.evSlice, SX.bnd, SX.evNil, SX.evUn, SX.evPick, SX.pickOpd, SX.popTo, SX.cnd, SX.env0, SX.TD.isAgg, SX.TD.isIface, SX.tails, SX.NotAgg, SX.evLookup, SX.evConvH, SX.evPtrEq, SX.isCells, SX.thaw, SX.frz, SX.fixB, SX.rootIx, SX.Froz, SX.frzStep, SX.fork, Go.Value.cells, Go.undef, cfg3]
    refine ⟨by (unfold SX.Ob; first | trivial | omega | ((try simp only [SX.inK]); (try simp [SX.den, SX.IsU8, SX.AllP, *]); (try omega))), ?_⟩
    intro a27 w27 hr27' _
    have hr27 := h26.unbase hr27'
    have hS27 := hS26.keep (by simpa [mutB] using hr27'.keeps.toBelow)
    refine post_call 11 [.ptr 0 c 0] hr27 (wanted_none rfl) rfl (callable 11 Try.func11) (hits_okS _ w27 c _ _ _ _ hS27) ?_
    rintro e w28 ⟨rfl, hb28⟩
    refine ⟨_, rfl, ?_⟩
    have hS28 := hS27.keep hb28
    have h28 := hr27.ret hb28 99 (.tu [.v (.int .i64 (p + 1 + 1)), .v (.int .i64 (0 + 1))]) rfl [] trivial (by simp) rfl
    refine seg cfg3_ok mixed PanicFree.body 1000 [] [(103, true), (107, true), (110, true), (116, true), (120, true)] h28.rebase (by first | trivial | exact HpRep.nil | assumption) (by kernel_rfl) fun s_ hs_ => ?_
    simp (maxSteps := 10000000) [SX.vc, SX.stop, SX.contS, SX.contB, SX.contW, SX.contR, SX.contD, SX.sxStep, SX.stepPure, SX.stepNew, SX.stepStore, SX.stepKeep, SX.guardIx, SX.evOp, SX.opd, SX.opds, SX.optOpd, SX.look, SX.putS, SX.gobs, SX.AllP, SX.leave, SX.lookC, SX.lookB, SX.lookT, SX.lookN, SX.findK, SX.evBuiltin, SX.ints, SX.foldI, SX.evBin, SX.evInt, SX.evStr, SX.evEq, SX.arith, SX.evLoad, SX.shapeUp, SX.evFieldAddr, SX.evField, SX.evIndexAddr, SX.evIndex, SX.evFill, SX.evBuild, SX.szs, SX.cellsV, SX.evNew, SX.evStore, SX.spliceL, SX.SV.cells, SX.evConv, SX.evSlice, SX.bnd, SX.evNil, SX.evUn, SX.evPick, SX.pickOpd, SX.popTo, SX.cnd, SX.env0, SX.TD.isAgg, SX.TD.isIface, SX.tails, SX.NotAgg, SX.evLookup, SX.evConvH, SX.evPtrEq, SX.isCells, SX.thaw, SX.frz, SX.fixB, SX.rootIx, SX.Froz, SX.frzStep, SX.fork, Go.Value.cells, Go.undef, cfg3]
    refine ⟨by (unfold SX.Ob; first | trivial | omega | ((try simp only [SX.inK]); (try simp [SX.den, SX.IsU8, SX.AllP, *]); (try omega))), ?_⟩
    intro a29 w29 hr29' _
    have hr29 := h28.unbase hr29'
    have hS29 := hS28.keep (by simpa [mutB] using hr29'.keeps.toBelow)
    have hle : (fIt j :: othersL (j : Int) (itm p 1 9 :: (j :: F).map fIt)).length = p := (room_len p j hF4 hj2).trans hF6
    refine post_call 12 [.ptr 0 c 0] hr29 (wanted_zero (hr29.env.same rfl rfl rfl rfl) rfl (by simp)) rfl (callable 12 Try.func12) (keys_okS _ w29 c _ _ _ _ hS29 (by omega)) ?_
    rintro e w30 ⟨x, H, hx, rfl, hH, hb30⟩
    refine ⟨_, rfl, ?_⟩
    rw [KeySlS, hle] at hx
    rcases hx with ⟨h0, _⟩ | ⟨b, cap, N, row, u, h0, hB, rfl, rfl, _⟩
    · omega
    have h30 := hr29.ret hb30 122 (.sl 0 b 0 0 p cap 2) rfl [(b, false, .arr 0 N row 2 u (0, 0))] ⟨⟨hH.1.1, by simp, by simp⟩, trivial⟩ (by simp) rfl
    refine seg cfg3_ok mixed PanicFree.body 1000 [] [(103, true), (107, true), (110, true), (116, true), (120, true)] h30 (by first | trivial | exact HpRep.nil | assumption) (by kernel_rfl) fun s_ hs_ => ?_
    simp (maxSteps := 10000000) [SX.vc, SX.stop, SX.contS, SX.contB, SX.contW, SX.contR, SX.contD, SX.sxStep, SX.stepPure, SX.stepNew, SX.stepStore, SX.stepKeep, SX.guardIx, SX.evOp, SX.opd, SX.opds, SX.optOpd, SX.look, SX.putS, SX.gobs, SX.AllP, SX.leave, SX.lookC, SX.lookB, SX.lookT, SX.lookN, SX.findK, SX.evBuiltin, SX.ints, SX.foldI, SX.evBin, SX.evInt, SX.evStr, SX.evEq, SX.arith, SX.evLoad, SX.shapeUp, SX.evFieldAddr, SX.evField, SX.evIndexAddr, SX.evIndex, SX.evFill, SX.evBuild, SX.szs, SX.cellsV, SX.evNew, SX.evStore, SX.spliceL, SX.SV.cells, SX.evConv, SX.evSlice, SX.bnd, SX.evNil, SX.evUn, SX.evPick, SX.pickOpd, SX.popTo, SX.cnd, SX.env0, SX.TD.isAgg, SX.TD.isIface, SX.tails, SX.NotAgg, SX.evLookup, SX.evConvH, SX.evPtrEq, SX.isCells, SX.thaw, SX.frz, SX.fixB, SX.rootIx, SX.Froz, SX.frzStep, SX.fork, Go.Value.cells, Go.undef, cfg3]
    refine ⟨by (unfold SX.Ob; first | trivial | omega | ((try simp only [SX.inK]); (try simp [SX.den, SX.IsU8, SX.AllP, *]); (try omega))), ?_⟩
    intro a31 w31 hr31 _
    exact post_retn (end1 hr31 rfl rfl ⟨by simp [den], hr31.keeps.toBelow⟩).1
end Go.Proofs
