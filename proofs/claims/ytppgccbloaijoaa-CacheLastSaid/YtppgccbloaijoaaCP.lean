/- The small functions: bytes by a number, a clone, the counters. -/
import Derived.Test.YtppgccbloaijoaaCK
namespace Go.Proofs
set_option linter.unusedVariables false
set_option linter.unusedSimpArgs false
set_option linter.unusedSectionVars false
open Go Go.SX Go.RowKit Go.Ring

theorem callable (n : Nat) {fn : Func} (h : Try.prog.funcs[n]? = some fn) (h2 : (fn.name == "runtime.NumGoroutine") = false := by kernel_rfl) (h3 : fn.body.isNone = false := by kernel_rfl) : Callable Try.prog n := ⟨fn, h, h2, h3⟩

/-- The byte of text(n) at i. -/
def sh (i : Nat) : Nat := i % 4 * 8
def tx (n : Int) (i : Nat) : Int := IntKind.u8.wrap (n.fdiv (2 ^ sh i))

theorem sh_facts (k : Nat) : (0 ≤ (k : Int).tmod 4 ∧ (k : Int).tmod 4 < 4) ∧ IntKind.u64.wrap ((k : Int).tmod 4 * 8) = ((sh k : Nat) : Int) ∧ min (sh k) IntKind.i64.bits = sh k := by
  have h1 : (k : Int).tmod 4 = (k : Int) % 4 := Int.tmod_eq_emod_of_nonneg (by omega)
  refine ⟨by rw [h1]; omega, ?_, ?_⟩
  · rw [h1]
    simp only [IntKind.wrap, IntKind.bits, IntKind.signed, sh]
    simp
    omega
  · simp only [sh, IntKind.bits]
    omega

def TextLoop (w : World) (n : Int) (b : Nat) (u : TypeId) (m : Nat) (a : Act) (w' : World) : Prop :=
  ∃ k : Nat, m = 16 - k ∧ k ≤ 16 ∧ ∃ row : Nat → List SV, (∀ j, j < k → row j = [.v (.int .u8 (tx n j))]) ∧ (∀ j, j < 16 → ∃ x, row j = [.v (.int .u8 x)]) ∧
    RepX (frame0 w) ⟨[(8, 0, .v (.int .i64 k)), (7, 0, .v (.int .i64 16)), (3, 0, .sl 0 b 0 0 16 16 1), (0, 0, .v (.int .i64 n))], [(b, true, .arr 0 16 row 1 u (0, 0))], 0, 0, 23, [], [], []⟩ a w'

set_option maxRecDepth 100000 in
set_option maxHeartbeats 4000000 in
theorem text_ok (w : World) (n : Int) (hn : inK n) :
    Calls Try.prog 9 (denL [.v (.int .i64 n)]).toArray w fun e w' => ∃ b, e = .returned (.slice (some ⟨b, 0, none⟩) 16 16) ∧ w.heap.size ≤ b ∧ (SO.arr 0 16 (fun j => [.v (.int .u8 (tx n j))]) 1 5 (0, 0)).rep w' b ∧ Below w.heap.size w w' := by
  refine enter (F := frame0 w) Try.func9 rfl [.v (.int .i64 n)] [] (by simp [Try.f9]) trivial (keeps0 w) fun a hr => ?_
  refine seg cfg9_ok mixed PanicFree.body 1000 [] [] hr (by first | trivial | exact HpRep.nil | assumption) (by kernel_rfl) fun s_ hs_ => ?_
  simp (maxSteps := 10000000) [SX.vc, SX.stop, SX.contS, SX.contB, SX.contW, SX.contR, SX.contD, SX.sxStep, SX.stepPure, SX.stepNew, SX.stepStore, SX.stepKeep, SX.guardIx, SX.evOp, SX.opd, SX.opds, SX.optOpd, SX.look, SX.putS, SX.gobs, SX.AllP, SX.leave, SX.lookC, SX.lookB, SX.lookT, SX.lookN, SX.findK, SX.evBuiltin, SX.ints, SX.foldI, SX.evBin, SX.evInt, SX.evStr, SX.evEq, SX.arith, SX.evLoad, SX.shapeUp, SX.evFieldAddr, SX.evField, SX.evIndexAddr, SX.evIndex, SX.evFill, SX.evBuild, SX.szs, SX.cellsV, SX.evNew, SX.evStore, SX.spliceL, SX.SV.cells, SX.evConv, SX.evSlice, SX.bnd, SX.evNil, SX.evUn, SX.evPick, SX.pickOpd, SX.popTo, SX.cnd, SX.env0, SX.TD.isAgg, SX.TD.isIface, SX.tails, SX.NotAgg, SX.evLookup, SX.evConvH, SX.evPtrEq, SX.isCells, SX.thaw, SX.frz, SX.fixB, SX.rootIx, SX.Froz, SX.frzStep, SX.fork, Go.Value.cells, Go.undef, cfg9, Try.f9]
  refine ⟨by (unfold SX.Ob; first | trivial | omega | ((try simp only [SX.inK]); (try simp [SX.den, SX.IsU8, SX.AllP, *]); (try omega))), ?_⟩
  intro a1 w1 hr1 _
  obtain ⟨s_0, hs00⟩ : ∃ x, x = s_ := ⟨_, rfl⟩
  subst hs00
  have hs0 : w.heap.size ≤ s_0 := by omega
  refine post_loop (TextLoop w n s_0 5) 16 ⟨0, rfl, by omega, _, fun j hj => by omega, fun j hj => ⟨0, rfl⟩, hr1.re (by simp [envTo, SX.look]) hr1.all rfl rfl⟩ ?_
  rintro m a2 w2 ⟨k, rfl, hk, row, hrow, hrow2, hr2⟩
  by_cases hlt : k < 16
  · obtain ⟨x, hx⟩ := hrow2 k hlt
    obtain ⟨hs1, hs2, hs3⟩ := sh_facts k
    refine seg cfg9_ok mixed PanicFree.body 1000 [true] [] hr2 (by first | trivial | exact HpRep.nil | assumption) (by kernel_rfl) fun s_ hs_ => ?_
    simp (maxSteps := 10000000) [SX.vc, SX.stop, SX.contS, SX.contB, SX.contW, SX.contR, SX.contD, SX.sxStep, SX.stepPure, SX.stepNew, SX.stepStore, SX.stepKeep, SX.guardIx, SX.evOp, SX.opd, SX.opds, SX.optOpd, SX.look, SX.putS, SX.gobs, SX.AllP, SX.leave, SX.lookC, SX.lookB, SX.lookT, SX.lookN, SX.findK, SX.evBuiltin, SX.ints, SX.foldI, SX.evBin, SX.evInt, SX.evStr, SX.evEq, SX.arith, SX.evLoad, SX.shapeUp, SX.evFieldAddr, SX.evField, SX.evIndexAddr, SX.evIndex, SX.evFill, SX.evBuild, SX.szs, SX.cellsV, SX.evNew, SX.evStore, SX.spliceL, SX.SV.cells, SX.evConv, SX.evSlice, SX.bnd, SX.evNil, SX.evUn, SX.evPick, SX.pickOpd, SX.popTo, SX.cnd, SX.env0, SX.TD.isAgg, SX.TD.isIface, SX.tails, SX.NotAgg, SX.evLookup, SX.evConvH, SX.evPtrEq, SX.isCells, SX.thaw, SX.frz, SX.fixB, SX.rootIx, SX.Froz, SX.frzStep, SX.fork, Go.Value.cells, Go.undef, cfg9, hx, hs2, hs3]
    refine ⟨by (unfold SX.Ob; first | trivial | omega | ((try simp only [SX.inK]); (try simp [SX.den, SX.IsU8, SX.AllP, *]); (try omega))), ?_⟩
    intro a3 w3 hr3 _
    refine post_rnd (16 - (k + 1)) (by omega) ⟨k + 1, rfl, hlt, _, fun j hj => ?_, fun j hj => ?_, hr3.re (by simp [envTo, SX.look]) hr3.all rfl rfl⟩
    · by_cases hjk : j = k
      · subst hjk; simp [setRow, tx]
      · simp only [setRow, if_neg hjk]; exact hrow j (by omega)
    · by_cases hjk : j = k
      · subst hjk; exact ⟨_, by simp [setRow]; rfl⟩
      · simp only [setRow, if_neg hjk]; exact hrow2 j hj
  · obtain rfl : k = 16 := by omega
    refine seg cfg9_ok mixed PanicFree.body 1000 [false] [] hr2 (by first | trivial | exact HpRep.nil | assumption) (by kernel_rfl) fun s_ hs_ => ?_
    simp (maxSteps := 10000000) [SX.vc, SX.stop, SX.contS, SX.contB, SX.contW, SX.contR, SX.contD, SX.sxStep, SX.stepPure, SX.stepNew, SX.stepStore, SX.stepKeep, SX.guardIx, SX.evOp, SX.opd, SX.opds, SX.optOpd, SX.look, SX.putS, SX.gobs, SX.AllP, SX.leave, SX.lookC, SX.lookB, SX.lookT, SX.lookN, SX.findK, SX.evBuiltin, SX.ints, SX.foldI, SX.evBin, SX.evInt, SX.evStr, SX.evEq, SX.arith, SX.evLoad, SX.shapeUp, SX.evFieldAddr, SX.evField, SX.evIndexAddr, SX.evIndex, SX.evFill, SX.evBuild, SX.szs, SX.cellsV, SX.evNew, SX.evStore, SX.spliceL, SX.SV.cells, SX.evConv, SX.evSlice, SX.bnd, SX.evNil, SX.evUn, SX.evPick, SX.pickOpd, SX.popTo, SX.cnd, SX.env0, SX.TD.isAgg, SX.TD.isIface, SX.tails, SX.NotAgg, SX.evLookup, SX.evConvH, SX.evPtrEq, SX.isCells, SX.thaw, SX.frz, SX.fixB, SX.rootIx, SX.Froz, SX.frzStep, SX.fork, Go.Value.cells, Go.undef, cfg9]
    refine ⟨by (unfold SX.Ob; first | trivial | omega | ((try simp only [SX.inK]); (try simp [SX.den, SX.IsU8, SX.AllP, *]); (try omega))), ?_⟩
    intro a3 w3 hr3 _
    exact post_retn (end1 hr3 rfl rfl ⟨s_0, rfl, hs0, rep_arr_sub hr3.all.1.1 (Nat.le_refl _) fun j hj => by rw [hrow j hj], hr3.keeps.toBelow⟩).1

/-- A slice of 16 bytes. -/
def Blk (w : World) (b cap : Nat) (g : Nat → Int) : Prop := ∃ u, (SO.arr 0 16 (fun j => [.v (.int .u8 (g j))]) 1 u (0, 0)).rep w b

set_option maxRecDepth 100000 in
set_option maxHeartbeats 4000000 in
theorem clone_ok (w : World) (b cap : Nat) (g : Nat → Int) (hb : Blk w b cap g) :
    Calls Try.prog 18 (denL [.v (.slice (some ⟨b, 0, none⟩) 16 cap)]).toArray w fun e w' => ∃ b' cap', e = .returned (.slice (some ⟨b', 0, none⟩) 16 cap') ∧ w.heap.size ≤ b' ∧ Blk w' b' cap' g ∧ Below w.heap.size w w' := by
  obtain ⟨u, hb⟩ := hb
  have hE : HpAll (frame0 w) w [(b, false, .arr 0 16 (fun j => [.v (.int .u8 (g j))]) 1 u (0, 0))] := ⟨⟨hb, by simp, by simp⟩, trivial⟩
  refine enter (F := frame0 w) Try.func18 rfl [.sl 0 b 0 0 16 cap 1] [(b, false, .arr 0 16 (fun j => [.v (.int .u8 (g j))]) 1 u (0, 0))] (by simp [Try.f18]) hE (keeps0 w) fun a hr => ?_
  refine seg cfg18_ok mixed PanicFree.body 1000 [false] [] hr (by first | trivial | exact HpRep.nil | assumption) (by kernel_rfl) fun s_ hs_ => ?_
  simp (maxSteps := 10000000) [SX.vc, SX.stop, SX.contS, SX.contB, SX.contW, SX.contR, SX.contD, SX.sxStep, SX.stepPure, SX.stepNew, SX.stepStore, SX.stepKeep, SX.guardIx, SX.evOp, SX.opd, SX.opds, SX.optOpd, SX.look, SX.putS, SX.gobs, SX.AllP, SX.leave, SX.lookC, SX.lookB, SX.lookT, SX.lookN, SX.findK, SX.evBuiltin, SX.ints, SX.foldI, SX.evBin, SX.evInt, SX.evStr, SX.evEq, SX.arith, SX.evLoad, SX.shapeUp, SX.evFieldAddr, SX.evField, SX.evIndexAddr, SX.evIndex, SX.evFill, SX.evBuild, SX.szs, SX.cellsV, SX.evNew, SX.evStore, SX.spliceL, SX.SV.cells, SX.evConv, SX.evSlice, SX.bnd, SX.evNil, SX.evUn, SX.evPick, SX.pickOpd, SX.popTo, SX.cnd, SX.env0, SX.TD.isAgg, SX.TD.isIface, SX.tails, SX.NotAgg, SX.evLookup, SX.evConvH, SX.evPtrEq, SX.isCells, SX.thaw, SX.frz, SX.fixB, SX.rootIx, SX.Froz, SX.frzStep, SX.fork, Go.Value.cells, Go.undef, cfg18, Try.f18]
  refine ⟨by (unfold SX.Ob; first | trivial | omega | ((try simp only [SX.inK]); (try simp [SX.den, SX.IsU8, SX.AllP, *]); (try omega))), ?_⟩
  intro a1 w1 hr1 _
  obtain ⟨s_0, hs00⟩ : ∃ x, x = s_ := ⟨_, rfl⟩
  subst hs00
  refine post_append cfg18_ok hr1 rfl (d := 7) rfl (by simp) rfl rfl (t := 27) (t' := 27) rfl rfl rfl rfl rfl rfl (by decide) (j := 0) rfl rfl (base2 := 0) (by omega) (.inr ⟨rfl, rfl, Nat.le_refl _, Nat.le_refl _⟩) (by omega) (by show (2 * (0 + 16) + 192) * 1 ≤ 281474976710656; omega) (fun j hj z hz => by simp at hz; subst hz; trivial) ?_
  intro a2 w2 b' cap' N' row' u' hc1 hc2 hrow0 hrow hb' hr2
  have hA := hr2.all
  have hbb : w.heap.size ≤ b' := by
    have := hr1.keeps.size
    simp only [frame0] at this
    rcases hb' with ⟨h, rfl⟩ | rfl
    · cases h; omega
    · omega
  have hB : Blk w2 b' cap' g := ⟨u', rep_arr_sub hA.2.1.1 (by omega) fun j hj => by have := hrow j hj; simp at this; rw [this]⟩
  refine seg cfg18_ok mixed PanicFree.body 1000 [] [] hr2 (by first | trivial | exact HpRep.nil | assumption) (by kernel_rfl) fun s_ hs_ => ?_
  simp (maxSteps := 10000000) [SX.vc, SX.stop, SX.contS, SX.contB, SX.contW, SX.contR, SX.contD, SX.sxStep, SX.stepPure, SX.stepNew, SX.stepStore, SX.stepKeep, SX.guardIx, SX.evOp, SX.opd, SX.opds, SX.optOpd, SX.look, SX.putS, SX.gobs, SX.AllP, SX.leave, SX.lookC, SX.lookB, SX.lookT, SX.lookN, SX.findK, SX.evBuiltin, SX.ints, SX.foldI, SX.evBin, SX.evInt, SX.evStr, SX.evEq, SX.arith, SX.evLoad, SX.shapeUp, SX.evFieldAddr, SX.evField, SX.evIndexAddr, SX.evIndex, SX.evFill, SX.evBuild, SX.szs, SX.cellsV, SX.evNew, SX.evStore, SX.spliceL, SX.SV.cells, SX.evConv, SX.evSlice, SX.bnd, SX.evNil, SX.evUn, SX.evPick, SX.pickOpd, SX.popTo, SX.cnd, SX.env0, SX.TD.isAgg, SX.TD.isIface, SX.tails, SX.NotAgg, SX.evLookup, SX.evConvH, SX.evPtrEq, SX.isCells, SX.thaw, SX.frz, SX.fixB, SX.rootIx, SX.Froz, SX.frzStep, SX.fork, Go.Value.cells, Go.undef, cfg18]
  refine ⟨by (unfold SX.Ob; first | trivial | omega | ((try simp only [SX.inK]); (try simp [SX.den, SX.IsU8, SX.AllP, *]); (try omega))), ?_⟩
  intro a3 w3 hr3 _
  exact post_retn (end1 hr3 rfl rfl ⟨b', cap', rfl, hbb, ⟨u', rep_arr_sub hr3.all.2.1.1 (by omega) fun j hj => by have := hrow j hj; simp at this; rw [this]⟩, hr3.keeps.toBelow⟩).1

set_option maxRecDepth 100000 in
set_option maxHeartbeats 4000000 in
theorem add_ok (w : World) (c o : Nat) (l : List SV) (x d : Int) (hb : (SO.cells l 59).rep w c) (hl : l[o]? = some (.v (.int .i64 x))) (hin : inK (x + d)) :
    Calls Try.prog 20 (denL [.v (.pointer (some ⟨c, o, none⟩)), .v (.int .i64 d)]).toArray w fun e w' => e = .returned (.int .i64 (x + d)) ∧ KeepsTo w [c] w' ∧ (SO.cells (l.set o (.v (.int .i64 (x + d)))) 59).rep w' c := by
  have hE : HpAll ⟨w, w.heap.size, [c]⟩ w [(c, true, .cells l 59)] := ⟨⟨hb, by simp, by simp⟩, trivial⟩
  refine enter (F := ⟨w, w.heap.size, [c]⟩) Try.func20 rfl [.ptr 0 c o, .v (.int .i64 d)] [(c, true, .cells l 59)] (by simp [Try.f20]) hE (KeepsTo.refl w [c]) fun a hr => ?_
  refine seg cfg20_ok mixed PanicFree.body 1000 [] [] hr (by first | trivial | exact HpRep.nil | assumption) (by kernel_rfl) fun s_ hs_ => ?_
  simp (maxSteps := 10000000) [SX.vc, SX.stop, SX.contS, SX.contB, SX.contW, SX.contR, SX.contD, SX.sxStep, SX.stepPure, SX.stepNew, SX.stepStore, SX.stepKeep, SX.guardIx, SX.evOp, SX.opd, SX.opds, SX.optOpd, SX.look, SX.putS, SX.gobs, SX.AllP, SX.leave, SX.lookC, SX.lookB, SX.lookT, SX.lookN, SX.findK, SX.evBuiltin, SX.ints, SX.foldI, SX.evBin, SX.evInt, SX.evStr, SX.evEq, SX.arith, SX.evLoad, SX.shapeUp, SX.evFieldAddr, SX.evField, SX.evIndexAddr, SX.evIndex, SX.evFill, SX.evBuild, SX.szs, SX.cellsV, SX.evNew, SX.evStore, SX.spliceL, SX.SV.cells, SX.evConv, SX.evSlice, SX.bnd, SX.evNil, SX.evUn, SX.evPick, SX.pickOpd, SX.popTo, SX.cnd, SX.env0, SX.TD.isAgg, SX.TD.isIface, SX.tails, SX.NotAgg, SX.evLookup, SX.evConvH, SX.evPtrEq, SX.isCells, SX.thaw, SX.frz, SX.fixB, SX.rootIx, SX.Froz, SX.frzStep, SX.fork, Go.Value.cells, Go.undef, cfg20, Try.f20]
  refine ⟨by (unfold SX.Ob; first | trivial | omega | ((try simp only [SX.inK]); (try simp [SX.den, SX.IsU8, SX.AllP, *]); (try omega))), ?_⟩
  intro a1 w1 hr1 _
  have hA := hr1.all.1.1
  have hrun := run_atomic_add (P := Try.prog) Try.func24 (by kernel_rfl) (by kernel_rfl) (by kernel_rfl) (by kernel_rfl) hA hl hin
  refine post_step rfl ((exec_callFunc (st := _) (c := 0) (hr1.env.same rfl rfl rfl rfl) rfl (g := 24) (l := [.ptr 0 c o, .v (.int .i64 d)]) rfl).trans hrun) ?_
  have h2 := hr1.retK (putBlk_keeps (w := w1) (b := c)) (by simp) 9 (.v (.int .i64 (x + d))) rfl [(c, true, .cells (l.set o (.v (.int .i64 (x + d)))) 59)] ⟨⟨putBlk_same (lt_of_heap hA), by simp, by simp⟩, trivial⟩ (by simp) rfl
  refine seg cfg20_ok mixed PanicFree.body 1000 [] [] h2 (by first | trivial | exact HpRep.nil | assumption) (by kernel_rfl) fun s_ hs_ => ?_
  simp (maxSteps := 10000000) [SX.vc, SX.stop, SX.contS, SX.contB, SX.contW, SX.contR, SX.contD, SX.sxStep, SX.stepPure, SX.stepNew, SX.stepStore, SX.stepKeep, SX.guardIx, SX.evOp, SX.opd, SX.opds, SX.optOpd, SX.look, SX.putS, SX.gobs, SX.AllP, SX.leave, SX.lookC, SX.lookB, SX.lookT, SX.lookN, SX.findK, SX.evBuiltin, SX.ints, SX.foldI, SX.evBin, SX.evInt, SX.evStr, SX.evEq, SX.arith, SX.evLoad, SX.shapeUp, SX.evFieldAddr, SX.evField, SX.evIndexAddr, SX.evIndex, SX.evFill, SX.evBuild, SX.szs, SX.cellsV, SX.evNew, SX.evStore, SX.spliceL, SX.SV.cells, SX.evConv, SX.evSlice, SX.bnd, SX.evNil, SX.evUn, SX.evPick, SX.pickOpd, SX.popTo, SX.cnd, SX.env0, SX.TD.isAgg, SX.TD.isIface, SX.tails, SX.NotAgg, SX.evLookup, SX.evConvH, SX.evPtrEq, SX.isCells, SX.thaw, SX.frz, SX.fixB, SX.rootIx, SX.Froz, SX.frzStep, SX.fork, Go.Value.cells, Go.undef, cfg20]
  refine ⟨by (unfold SX.Ob; first | trivial | omega | ((try simp only [SX.inK]); (try simp [SX.den, SX.IsU8, SX.AllP, *]); (try omega))), ?_⟩
  intro a3 w3 hr3 _
  exact post_retn (end1 hr3 rfl rfl ⟨rfl, hr3.keeps, hr3.all.1.1⟩).1

set_option maxRecDepth 100000 in
set_option maxHeartbeats 4000000 in
theorem load_ok (w : World) (c o : Nat) (l : List SV) (x : Int) (hb : (SO.cells l 59).rep w c) (hl : l[o]? = some (.v (.int .i64 x))) :
    Calls Try.prog 22 (denL [.v (.pointer (some ⟨c, o, none⟩))]).toArray w fun e w' => e = .returned (.int .i64 x) ∧ Below w.heap.size w w' := by
  have hE : HpAll (frame0 w) w [(c, false, .cells l 59)] := ⟨⟨hb, by simp, by simp⟩, trivial⟩
  refine enter (F := frame0 w) Try.func22 rfl [.ptr 0 c o] [(c, false, .cells l 59)] (by simp [Try.f22]) hE (keeps0 w) fun a hr => ?_
  refine seg cfg22_ok mixed PanicFree.body 1000 [] [] hr (by first | trivial | exact HpRep.nil | assumption) (by kernel_rfl) fun s_ hs_ => ?_
  simp (maxSteps := 10000000) [SX.vc, SX.stop, SX.contS, SX.contB, SX.contW, SX.contR, SX.contD, SX.sxStep, SX.stepPure, SX.stepNew, SX.stepStore, SX.stepKeep, SX.guardIx, SX.evOp, SX.opd, SX.opds, SX.optOpd, SX.look, SX.putS, SX.gobs, SX.AllP, SX.leave, SX.lookC, SX.lookB, SX.lookT, SX.lookN, SX.findK, SX.evBuiltin, SX.ints, SX.foldI, SX.evBin, SX.evInt, SX.evStr, SX.evEq, SX.arith, SX.evLoad, SX.shapeUp, SX.evFieldAddr, SX.evField, SX.evIndexAddr, SX.evIndex, SX.evFill, SX.evBuild, SX.szs, SX.cellsV, SX.evNew, SX.evStore, SX.spliceL, SX.SV.cells, SX.evConv, SX.evSlice, SX.bnd, SX.evNil, SX.evUn, SX.evPick, SX.pickOpd, SX.popTo, SX.cnd, SX.env0, SX.TD.isAgg, SX.TD.isIface, SX.tails, SX.NotAgg, SX.evLookup, SX.evConvH, SX.evPtrEq, SX.isCells, SX.thaw, SX.frz, SX.fixB, SX.rootIx, SX.Froz, SX.frzStep, SX.fork, Go.Value.cells, Go.undef, cfg22, Try.f22]
  refine ⟨by (unfold SX.Ob; first | trivial | omega | ((try simp only [SX.inK]); (try simp [SX.den, SX.IsU8, SX.AllP, *]); (try omega))), ?_⟩
  intro a1 w1 hr1 _
  have hA := hr1.all.1.1
  have hrun := run_atomic_load (P := Try.prog) Try.func25 (by kernel_rfl) (by kernel_rfl) (by kernel_rfl) (by kernel_rfl) hA hl
  refine post_step rfl ((exec_callFunc (st := _) (c := 0) (hr1.env.same rfl rfl rfl rfl) rfl (g := 25) (l := [.ptr 0 c o]) rfl).trans hrun) ?_
  have h2 := hr1.retK (KeepsTo.refl w1 []) (by simp) 6 (.v (.int .i64 x)) rfl [(c, false, .cells l 59)] hr1.all (by simp) rfl
  refine seg cfg22_ok mixed PanicFree.body 1000 [] [] h2 (by first | trivial | exact HpRep.nil | assumption) (by kernel_rfl) fun s_ hs_ => ?_
  simp (maxSteps := 10000000) [SX.vc, SX.stop, SX.contS, SX.contB, SX.contW, SX.contR, SX.contD, SX.sxStep, SX.stepPure, SX.stepNew, SX.stepStore, SX.stepKeep, SX.guardIx, SX.evOp, SX.opd, SX.opds, SX.optOpd, SX.look, SX.putS, SX.gobs, SX.AllP, SX.leave, SX.lookC, SX.lookB, SX.lookT, SX.lookN, SX.findK, SX.evBuiltin, SX.ints, SX.foldI, SX.evBin, SX.evInt, SX.evStr, SX.evEq, SX.arith, SX.evLoad, SX.shapeUp, SX.evFieldAddr, SX.evField, SX.evIndexAddr, SX.evIndex, SX.evFill, SX.evBuild, SX.szs, SX.cellsV, SX.evNew, SX.evStore, SX.spliceL, SX.SV.cells, SX.evConv, SX.evSlice, SX.bnd, SX.evNil, SX.evUn, SX.evPick, SX.pickOpd, SX.popTo, SX.cnd, SX.env0, SX.TD.isAgg, SX.TD.isIface, SX.tails, SX.NotAgg, SX.evLookup, SX.evConvH, SX.evPtrEq, SX.isCells, SX.thaw, SX.frz, SX.fixB, SX.rootIx, SX.Froz, SX.frzStep, SX.fork, Go.Value.cells, Go.undef, cfg22]
  refine ⟨by (unfold SX.Ob; first | trivial | omega | ((try simp only [SX.inK]); (try simp [SX.den, SX.IsU8, SX.AllP, *]); (try omega))), ?_⟩
  intro a3 w3 hr3 _
  exact post_retn (end1 hr3 rfl rfl ⟨rfl, hr3.keeps.toBelow⟩).1
end Go.Proofs
