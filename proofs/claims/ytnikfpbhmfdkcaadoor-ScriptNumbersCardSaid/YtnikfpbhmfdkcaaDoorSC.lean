/- Script: numbers and words that are read. -/
import Derived.Test.YtnikfpbhmfdkcaaDoorST
import Derived.Test.YtnikfpbhmfdkcaaDoorSP
import Derived.Test.YtnikfpbhmfdkcaaDoorSS
namespace Go.Proofs
set_option linter.unusedVariables false
set_option linter.unusedSimpArgs false
set_option linter.unusedSectionVars false
open Go Go.SX Go.RowKit Go.Script

theorem callable (n : Nat) {fn : Func} (h : Tryd.prog.funcs[n]? = some fn) (h2 : (fn.name == "runtime.NumGoroutine") = false := by kernel_rfl) (h3 : fn.body.isNone = false := by kernel_rfl) : Callable Tryd.prog n := ⟨fn, h, h2, h3⟩
theorem BtoList (l : L8) : (B l).toList = l := by rw [Lib.toList_data, B_data]
theorem litToList (a : Array UInt8) : (⟨a⟩ : ByteArray).toList = a.toList := Lib.toList_data _
theorem B_getD (l : L8) (k : Nat) : (B l).data.getD k 0 = l.getD k 0 := by
  simp [B, Array.getD_eq_getD_getElem?, List.getD_eq_getElem?_getD]
def ch (l : L8) (k : Nat) : Nat := (l.getD k 0).toNat
theorem B_ch (l : L8) (k : Nat) : ((B l).data[k]?.getD 0).toNat = ch l k := by
  rw [← Array.getD_eq_getD_getElem?, B_getD]
  rfl
theorem emptyB : (⟨#[]⟩ : ByteArray) = B [] := rfl

theorem valL_lt : ∀ (k : Nat) (l : L8), l.length = k → l.all isDig = true → valL l < 10 ^ k
  | 0, l, hl, _ => by
    obtain rfl := List.length_eq_zero_iff.1 hl
    simp [valL]
  | k + 1, l, hl, ha => by
    obtain ⟨m, c, rfl⟩ : ∃ m c, l = m ++ [c] := ⟨l.dropLast, l.getLast (by intro e; rw [e] at hl; simp at hl), (List.dropLast_concat_getLast _).symm⟩
    have hm : m.length = k := by simpa using hl
    simp only [List.all_append, Bool.and_eq_true] at ha
    have hc : 48 ≤ c.toNat ∧ c.toNat ≤ 57 := by simpa [isDig] using ha.2
    have := valL_lt k m hm ha.1
    rw [valL_snoc, Nat.pow_succ]
    omega

/-- What Number answers. -/
def NumRes (l : L8) (n : Int) (ok : Bool) : Prop := (∃ k : Nat, numL l = some k ∧ n = k ∧ ok = true) ∨ (numL l = none ∧ ok = false)
def NumEnd (l : L8) (e : Ending) : Prop := ∃ n ok, e = .returned (den (.tu [.v (.int .i64 n), .v (.bool ok)])) ∧ NumRes l n ok
def NumL (w : World) (l : L8) (ln : Nat) (m : Nat) (a : Act) (w' : World) : Prop :=
  ∃ k v : Nat, m = ln - k ∧ k ≤ ln ∧ (l.take k).all isDig = true ∧ valL (l.take k) = v ∧ RepX (frame0 w) ⟨[(24, 0, .v (.int .i64 k)), (23, 0, .v (.int .i64 ln)), (2, 0, .v (.int .i64 v)), (0, 0, .v (.string (B l)))], [], 0, 0, 49, [], [], []⟩ a w'

set_option maxRecDepth 100000 in
set_option maxHeartbeats 8000000 in
theorem number_ok (w : World) (l : L8) : Calls Tryd.prog 10 (denL [.v (.string (B l))]).toArray w fun e w' => NumEnd l e ∧ Below w.heap.size w w' := by
  obtain ⟨ln, hln⟩ : ∃ ln, l.length = ln := ⟨_, rfl⟩
  refine enter (F := frame0 w) Tryd.func10 rfl [.v (.string (B l))] [] (by simp [Tryd.f10]) trivial (keeps0 w) fun a hr => ?_
  have hbad : numBad l = true → NumRes l 0 false := fun h => .inr ⟨by unfold numL; rw [h]; rfl, rfl⟩
  by_cases h0 : ln = 0
  · have hl : l = [] := List.length_eq_zero_iff.1 (by omega)
    subst hl
    refine seg cfg10_ok mixed PanicFree.body 1000 [true] [(7, true), (12, true)] hr (by first | trivial | exact HpRep.nil | assumption) (by kernel_rfl) fun s_ hs_ => ?_
    simp (maxSteps := 10000000) [SX.vc, SX.stop, SX.contS, SX.contB, SX.contW, SX.contR, SX.contD, SX.sxStep, SX.stepPure, SX.stepNew, SX.stepStore, SX.stepKeep, SX.guardIx, SX.evOp, SX.opd, SX.opds, SX.optOpd, SX.look, SX.putS, SX.gobs, SX.AllP, SX.leave, SX.lookC, SX.lookB, SX.lookT, SX.lookN, SX.findK, SX.evBuiltin, SX.ints, SX.foldI, SX.evBin, SX.evInt, SX.evStr, SX.evEq, SX.arith, SX.evLoad, SX.shapeUp, SX.evFieldAddr, SX.evField, SX.evIndexAddr, SX.evIndex, SX.evFill, SX.evBuild, SX.szs, SX.cellsV, SX.evNew, SX.evStore, SX.spliceL, SX.SV.cells, SX.evConv, SX.evSlice, SX.bnd, SX.evNil, SX.evUn, SX.evPick, SX.pickOpd, SX.popTo, SX.cnd, SX.env0, SX.TD.isAgg, SX.TD.isIface, SX.tails, SX.NotAgg, SX.evLookup, SX.evConvH, SX.evPtrEq, SX.isCells, SX.thaw, SX.frz, SX.fixB, SX.rootIx, SX.Froz, SX.frzStep, SX.fork, Go.Value.cells, Go.undef, cfg10, Tryd.f10, BtoList, litToList, B_size]
    refine ⟨by (unfold SX.Ob; first | trivial | omega | ((try simp only [SX.inK]); (try simp [SX.den, SX.IsU8, SX.AllP, *]); (try omega))), ?_⟩
    intro a1 w1 hr1 _
    exact post_retn (end2 hr1 rfl rfl rfl ⟨⟨_, _, rfl, hbad (by simp [numBad])⟩, hr1.keeps.toBelow⟩).1
  have hl0 : l ≠ [] := fun e => h0 (by rw [← hln, e]; rfl)
  by_cases h13 : 13 < ln
  · have h13' : (13 : Int) < (ln : Int) := by omega
    refine seg cfg10_ok mixed PanicFree.body 1000 [true] [(7, false), (12, true)] hr (by first | trivial | exact HpRep.nil | assumption) (by kernel_rfl) fun s_ hs_ => ?_
    simp (maxSteps := 10000000) [SX.vc, SX.stop, SX.contS, SX.contB, SX.contW, SX.contR, SX.contD, SX.sxStep, SX.stepPure, SX.stepNew, SX.stepStore, SX.stepKeep, SX.guardIx, SX.evOp, SX.opd, SX.opds, SX.optOpd, SX.look, SX.putS, SX.gobs, SX.AllP, SX.leave, SX.lookC, SX.lookB, SX.lookT, SX.lookN, SX.findK, SX.evBuiltin, SX.ints, SX.foldI, SX.evBin, SX.evInt, SX.evStr, SX.evEq, SX.arith, SX.evLoad, SX.shapeUp, SX.evFieldAddr, SX.evField, SX.evIndexAddr, SX.evIndex, SX.evFill, SX.evBuild, SX.szs, SX.cellsV, SX.evNew, SX.evStore, SX.spliceL, SX.SV.cells, SX.evConv, SX.evSlice, SX.bnd, SX.evNil, SX.evUn, SX.evPick, SX.pickOpd, SX.popTo, SX.cnd, SX.env0, SX.TD.isAgg, SX.TD.isIface, SX.tails, SX.NotAgg, SX.evLookup, SX.evConvH, SX.evPtrEq, SX.isCells, SX.thaw, SX.frz, SX.fixB, SX.rootIx, SX.Froz, SX.frzStep, SX.fork, Go.Value.cells, Go.undef, cfg10, Tryd.f10, BtoList, litToList, B_size, hln, hl0, h13']
    refine ⟨by (unfold SX.Ob; first | trivial | omega | ((try simp only [SX.inK]); (try simp [SX.den, SX.IsU8, SX.AllP, *]); (try omega))), ?_⟩
    intro a1 w1 hr1 _
    exact post_retn (end2 hr1 rfl rfl rfl ⟨⟨_, _, rfl, hbad (by simp [numBad]; omega)⟩, hr1.keeps.toBelow⟩).1
  have h13' : ¬ (13 : Int) < (ln : Int) := by omega
  have hpos : (0 : Int) < (ln : Int) := by omega
  obtain ⟨m0, hm0⟩ : ∃ m0, ch l 0 = m0 := ⟨_, rfl⟩
  obtain ⟨j, hj⟩ : ∃ j : Bool, numBad l = j := ⟨_, rfl⟩
  cases j with
  | true =>
    have hh : 1 < ln ∧ l.getD 0 0 = 48 := by
      unfold numBad at hj
      simp only [Bool.or_eq_true, beq_iff_eq, decide_eq_true_eq, Bool.and_eq_true, hln] at hj
      rcases hj with (h | h) | h
      · omega
      · omega
      · exact h
    have h1 : (1 : Int) < (ln : Int) := by omega
    have hm : m0 = 48 := by rw [← hm0]; unfold ch; rw [hh.2]; rfl
    subst hm
    refine seg cfg10_ok mixed PanicFree.body 1000 [true] [(7, false), (12, false), (16, true)] hr (by first | trivial | exact HpRep.nil | assumption) (by kernel_rfl) fun s_ hs_ => ?_
    simp (maxSteps := 10000000) [SX.vc, SX.stop, SX.contS, SX.contB, SX.contW, SX.contR, SX.contD, SX.sxStep, SX.stepPure, SX.stepNew, SX.stepStore, SX.stepKeep, SX.guardIx, SX.evOp, SX.opd, SX.opds, SX.optOpd, SX.look, SX.putS, SX.gobs, SX.AllP, SX.leave, SX.lookC, SX.lookB, SX.lookT, SX.lookN, SX.findK, SX.evBuiltin, SX.ints, SX.foldI, SX.evBin, SX.evInt, SX.evStr, SX.evEq, SX.arith, SX.evLoad, SX.shapeUp, SX.evFieldAddr, SX.evField, SX.evIndexAddr, SX.evIndex, SX.evFill, SX.evBuild, SX.szs, SX.cellsV, SX.evNew, SX.evStore, SX.spliceL, SX.SV.cells, SX.evConv, SX.evSlice, SX.bnd, SX.evNil, SX.evUn, SX.evPick, SX.pickOpd, SX.popTo, SX.cnd, SX.env0, SX.TD.isAgg, SX.TD.isIface, SX.tails, SX.NotAgg, SX.evLookup, SX.evConvH, SX.evPtrEq, SX.isCells, SX.thaw, SX.frz, SX.fixB, SX.rootIx, SX.Froz, SX.frzStep, SX.fork, Go.Value.cells, Go.undef, cfg10, Tryd.f10, BtoList, litToList, B_size, B_ch, hln, hl0, h13', h1, hm0, hpos]
    refine ⟨by (unfold SX.Ob; first | trivial | omega | ((try simp only [SX.inK]); (try simp [SX.den, SX.IsU8, SX.AllP, *]); (try omega))), ?_⟩
    intro a1 w1 hr1 _
    exact post_retn (end2 hr1 rfl rfl rfl ⟨⟨_, _, rfl, hbad hj⟩, hr1.keeps.toBelow⟩).1
  | false =>
  have hloop : ∀ a1 w1, RepX (frame0 w) ⟨[(24, 0, .v (.int .i64 0)), (23, 0, .v (.int .i64 ln)), (2, 0, .v (.int .i64 0)), (0, 0, .v (.string (B l)))], [], 0, 0, 49, [], [], []⟩ a1 w1 → NumL w l ln ln a1 w1 :=
    fun a1 w1 h => ⟨0, 0, rfl, by omega, by simp, by simp [valL], h⟩
  rcases Classical.em (1 < ln) with h1 | h1
  case' inl =>
    have h1' : (1 : Int) < (ln : Int) := by omega
    have hm : m0 ≠ 48 := by
      intro e
      have : l.getD 0 0 = 48 := UInt8.toNat_inj.1 (by rw [show (l.getD 0 0).toNat = m0 from hm0, e]; rfl)
      unfold numBad at hj
      simp only [Bool.or_eq_false_iff, beq_eq_false_iff_ne, Bool.and_eq_false_imp, decide_eq_true_eq, hln] at hj
      exact hj.2 h1 this
    have hm' : ¬ (m0 : Int) = 48 := by omega
    refine seg cfg10_ok mixed PanicFree.body 1000 [false] [(7, false), (12, false), (16, true)] hr (by first | trivial | exact HpRep.nil | assumption) (by kernel_rfl) fun s_ hs_ => ?_
    simp (maxSteps := 10000000) [SX.vc, SX.stop, SX.contS, SX.contB, SX.contW, SX.contR, SX.contD, SX.sxStep, SX.stepPure, SX.stepNew, SX.stepStore, SX.stepKeep, SX.guardIx, SX.evOp, SX.opd, SX.opds, SX.optOpd, SX.look, SX.putS, SX.gobs, SX.AllP, SX.leave, SX.lookC, SX.lookB, SX.lookT, SX.lookN, SX.findK, SX.evBuiltin, SX.ints, SX.foldI, SX.evBin, SX.evInt, SX.evStr, SX.evEq, SX.arith, SX.evLoad, SX.shapeUp, SX.evFieldAddr, SX.evField, SX.evIndexAddr, SX.evIndex, SX.evFill, SX.evBuild, SX.szs, SX.cellsV, SX.evNew, SX.evStore, SX.spliceL, SX.SV.cells, SX.evConv, SX.evSlice, SX.bnd, SX.evNil, SX.evUn, SX.evPick, SX.pickOpd, SX.popTo, SX.cnd, SX.env0, SX.TD.isAgg, SX.TD.isIface, SX.tails, SX.NotAgg, SX.evLookup, SX.evConvH, SX.evPtrEq, SX.isCells, SX.thaw, SX.frz, SX.fixB, SX.rootIx, SX.Froz, SX.frzStep, SX.fork, Go.Value.cells, Go.undef, cfg10, Tryd.f10, BtoList, litToList, B_size, B_ch, hln, hl0, h13', h1', hm0, hpos, hm']
    refine ⟨by (unfold SX.Ob; first | trivial | omega | ((try simp only [SX.inK]); (try simp [SX.den, SX.IsU8, SX.AllP, *]); (try omega))), ?_⟩
    intro a1 w1 hr1 _
    refine post_loop (NumL w l ln) _ (hloop _ _ (hr1.re (by simp [envTo, SX.look]) trivial rfl rfl)) ?_
    clear hm hm' h1' hr1
  case' inr =>
    have h1' : ¬ (1 : Int) < (ln : Int) := by omega
    refine seg cfg10_ok mixed PanicFree.body 1000 [false] [(7, false), (12, false), (16, false)] hr (by first | trivial | exact HpRep.nil | assumption) (by kernel_rfl) fun s_ hs_ => ?_
    simp (maxSteps := 10000000) [SX.vc, SX.stop, SX.contS, SX.contB, SX.contW, SX.contR, SX.contD, SX.sxStep, SX.stepPure, SX.stepNew, SX.stepStore, SX.stepKeep, SX.guardIx, SX.evOp, SX.opd, SX.opds, SX.optOpd, SX.look, SX.putS, SX.gobs, SX.AllP, SX.leave, SX.lookC, SX.lookB, SX.lookT, SX.lookN, SX.findK, SX.evBuiltin, SX.ints, SX.foldI, SX.evBin, SX.evInt, SX.evStr, SX.evEq, SX.arith, SX.evLoad, SX.shapeUp, SX.evFieldAddr, SX.evField, SX.evIndexAddr, SX.evIndex, SX.evFill, SX.evBuild, SX.szs, SX.cellsV, SX.evNew, SX.evStore, SX.spliceL, SX.SV.cells, SX.evConv, SX.evSlice, SX.bnd, SX.evNil, SX.evUn, SX.evPick, SX.pickOpd, SX.popTo, SX.cnd, SX.env0, SX.TD.isAgg, SX.TD.isIface, SX.tails, SX.NotAgg, SX.evLookup, SX.evConvH, SX.evPtrEq, SX.isCells, SX.thaw, SX.frz, SX.fixB, SX.rootIx, SX.Froz, SX.frzStep, SX.fork, Go.Value.cells, Go.undef, cfg10, Tryd.f10, BtoList, litToList, B_size, B_ch, hln, hl0, h13', h1', hm0, hpos]
    refine ⟨by (unfold SX.Ob; first | trivial | omega | ((try simp only [SX.inK]); (try simp [SX.den, SX.IsU8, SX.AllP, *]); (try omega))), ?_⟩
    intro a1 w1 hr1 _
    refine post_loop (NumL w l ln) _ (hloop _ _ (hr1.re (by simp [envTo, SX.look]) trivial rfl rfl)) ?_
    clear h1' hr1
  all_goals
    clear hloop hr hm0 h13'
    rintro m a2 w2 ⟨k, v, rfl, hk, hall, hv, hr2⟩
    rcases Classical.em (k < ln) with hlt | hlt
    · obtain ⟨c, hc⟩ : ∃ c, ch l k = c := ⟨_, rfl⟩
      have htk : l.take (k + 1) = l.take k ++ [l.getD k 0] := by
        rw [List.take_add_one, List.getElem?_eq_getElem (by omega), List.getD_eq_getElem?_getD, List.getElem?_eq_getElem (by omega)]
        rfl
      have hlk : (k : Int) < (ln : Int) := by omega
      have hfail : isDig (l.getD k 0) = false → NumRes l 0 false := fun h => .inr ⟨numL_of_bad (by
        rw [List.all_eq_false]
        exact ⟨l.getD k 0, by rw [List.getD_eq_getElem?_getD, List.getElem?_eq_getElem (by omega)]; exact List.getElem_mem _, by rw [h]; simp⟩), rfl⟩
      by_cases c1 : c < 48
      · have c1' : (c : Int) < 48 := by omega
        refine seg cfg10_ok mixed PanicFree.body 1000 [true, true] [(31, true)] hr2 (by first | trivial | exact HpRep.nil | assumption) (by kernel_rfl) fun s_ hs_ => ?_
        simp (maxSteps := 10000000) [SX.vc, SX.stop, SX.contS, SX.contB, SX.contW, SX.contR, SX.contD, SX.sxStep, SX.stepPure, SX.stepNew, SX.stepStore, SX.stepKeep, SX.guardIx, SX.evOp, SX.opd, SX.opds, SX.optOpd, SX.look, SX.putS, SX.gobs, SX.AllP, SX.leave, SX.lookC, SX.lookB, SX.lookT, SX.lookN, SX.findK, SX.evBuiltin, SX.ints, SX.foldI, SX.evBin, SX.evInt, SX.evStr, SX.evEq, SX.arith, SX.evLoad, SX.shapeUp, SX.evFieldAddr, SX.evField, SX.evIndexAddr, SX.evIndex, SX.evFill, SX.evBuild, SX.szs, SX.cellsV, SX.evNew, SX.evStore, SX.spliceL, SX.SV.cells, SX.evConv, SX.evSlice, SX.bnd, SX.evNil, SX.evUn, SX.evPick, SX.pickOpd, SX.popTo, SX.cnd, SX.env0, SX.TD.isAgg, SX.TD.isIface, SX.tails, SX.NotAgg, SX.evLookup, SX.evConvH, SX.evPtrEq, SX.isCells, SX.thaw, SX.frz, SX.fixB, SX.rootIx, SX.Froz, SX.frzStep, SX.fork, Go.Value.cells, Go.undef, cfg10, BtoList, litToList, B_size, B_ch, hln, hc, hlk, c1']
        refine ⟨by (unfold SX.Ob; first | trivial | omega | ((try simp only [SX.inK]); (try simp [SX.den, SX.IsU8, SX.AllP, *]); (try omega))), ?_⟩
        intro a3 w3 hr3 _
        exact post_retn (end2 hr3 rfl rfl rfl ⟨⟨_, _, rfl, hfail (by unfold isDig; rw [show (l.getD k 0).toNat = c from hc]; simp; omega)⟩, hr3.keeps.toBelow⟩).1
      · have c1' : ¬ (c : Int) < 48 := by omega
        by_cases c2 : 57 < c
        · have c2' : (57 : Int) < (c : Int) := by omega
          refine seg cfg10_ok mixed PanicFree.body 1000 [true, true] [(31, false)] hr2 (by first | trivial | exact HpRep.nil | assumption) (by kernel_rfl) fun s_ hs_ => ?_
          simp (maxSteps := 10000000) [SX.vc, SX.stop, SX.contS, SX.contB, SX.contW, SX.contR, SX.contD, SX.sxStep, SX.stepPure, SX.stepNew, SX.stepStore, SX.stepKeep, SX.guardIx, SX.evOp, SX.opd, SX.opds, SX.optOpd, SX.look, SX.putS, SX.gobs, SX.AllP, SX.leave, SX.lookC, SX.lookB, SX.lookT, SX.lookN, SX.findK, SX.evBuiltin, SX.ints, SX.foldI, SX.evBin, SX.evInt, SX.evStr, SX.evEq, SX.arith, SX.evLoad, SX.shapeUp, SX.evFieldAddr, SX.evField, SX.evIndexAddr, SX.evIndex, SX.evFill, SX.evBuild, SX.szs, SX.cellsV, SX.evNew, SX.evStore, SX.spliceL, SX.SV.cells, SX.evConv, SX.evSlice, SX.bnd, SX.evNil, SX.evUn, SX.evPick, SX.pickOpd, SX.popTo, SX.cnd, SX.env0, SX.TD.isAgg, SX.TD.isIface, SX.tails, SX.NotAgg, SX.evLookup, SX.evConvH, SX.evPtrEq, SX.isCells, SX.thaw, SX.frz, SX.fixB, SX.rootIx, SX.Froz, SX.frzStep, SX.fork, Go.Value.cells, Go.undef, cfg10, BtoList, litToList, B_size, B_ch, hln, hc, hlk, c1', c2']
          refine ⟨by (unfold SX.Ob; first | trivial | omega | ((try simp only [SX.inK]); (try simp [SX.den, SX.IsU8, SX.AllP, *]); (try omega))), ?_⟩
          intro a3 w3 hr3 _
          exact post_retn (end2 hr3 rfl rfl rfl ⟨⟨_, _, rfl, hfail (by unfold isDig; rw [show (l.getD k 0).toNat = c from hc]; simp; omega)⟩, hr3.keeps.toBelow⟩).1
        · have c2' : ¬ (57 : Int) < (c : Int) := by omega
          have hvlt := valL_lt k (l.take k) (by simp; omega) hall
          have hk12 : (10 : Nat) ^ k ≤ 10 ^ 12 := Nat.pow_le_pow_right (by omega) (by omega)
          rw [hv] at hvlt
          have hv12 : v < 1000000000000 := by omega
          obtain ⟨dd, hdd⟩ : ∃ dd, dd + 48 = c := ⟨c - 48, by omega⟩
          have hd9 : dd < 10 := by omega
          have hc48 : IntKind.u8.wrap ((c : Int) - 48) = (dd : Int) := by rw [← hdd]; simp [IntKind.wrap, IntKind.bits, IntKind.signed]; omega
          have hc64 : IntKind.i64.wrap (dd : Int) = (dd : Int) := IntWalk.i64_in _ (by omega)
          have hve := hv
          clear hvlt hk12 hdd hv
          refine seg cfg10_ok mixed PanicFree.body 1000 [true, false] [(31, false)] hr2 (by first | trivial | exact HpRep.nil | assumption) (by kernel_rfl) fun s_ hs_ => ?_
          simp (maxSteps := 10000000) [SX.vc, SX.stop, SX.contS, SX.contB, SX.contW, SX.contR, SX.contD, SX.sxStep, SX.stepPure, SX.stepNew, SX.stepStore, SX.stepKeep, SX.guardIx, SX.evOp, SX.opd, SX.opds, SX.optOpd, SX.look, SX.putS, SX.gobs, SX.AllP, SX.leave, SX.lookC, SX.lookB, SX.lookT, SX.lookN, SX.findK, SX.evBuiltin, SX.ints, SX.foldI, SX.evBin, SX.evInt, SX.evStr, SX.evEq, SX.arith, SX.evLoad, SX.shapeUp, SX.evFieldAddr, SX.evField, SX.evIndexAddr, SX.evIndex, SX.evFill, SX.evBuild, SX.szs, SX.cellsV, SX.evNew, SX.evStore, SX.spliceL, SX.SV.cells, SX.evConv, SX.evSlice, SX.bnd, SX.evNil, SX.evUn, SX.evPick, SX.pickOpd, SX.popTo, SX.cnd, SX.env0, SX.TD.isAgg, SX.TD.isIface, SX.tails, SX.NotAgg, SX.evLookup, SX.evConvH, SX.evPtrEq, SX.isCells, SX.thaw, SX.frz, SX.fixB, SX.rootIx, SX.Froz, SX.frzStep, SX.fork, Go.Value.cells, Go.undef, cfg10, BtoList, litToList, B_size, B_ch, hln, hc, hlk, c1', c2', hc48, hc64]
          refine ⟨by (unfold SX.Ob; first | trivial | omega | ((try simp only [SX.inK]); (try simp [SX.den, SX.IsU8, SX.AllP, *]); (try omega))), ?_⟩
          intro a3 w3 hr3 _
          refine post_rnd (ln - (k + 1)) (by omega) ⟨k + 1, v * 10 + dd, rfl, hlt, ?_, ?_, hr3.re (by simp [envTo, SX.look, den]) trivial rfl rfl⟩
          · rw [htk, List.all_append, hall]
            simp only [List.all_cons, List.all_nil, Bool.and_true, Bool.true_and]
            unfold isDig
            rw [show (l.getD k 0).toNat = c from hc]
            simp
            omega
          · rw [htk, valL_snoc, hve, show (l.getD k 0).toNat = c from hc]
            have : IntKind.u8.wrap ((c : Int) - 48) = ((c - 48 : Nat) : Int) := by simp [IntKind.wrap, IntKind.bits, IntKind.signed]; omega
            omega
    · obtain rfl : k = ln := by omega
      have hkk : ¬ (k : Int) < (k : Int) := by omega
      have ht : l.take k = l := List.take_of_length_le (by omega)
      rw [ht] at hall hv
      have hnum : numL l = if v ≤ 1000000000000 then some v else none := by unfold numL; rw [hj, hall, hv]; rfl
      by_cases hle : v ≤ 1000000000000
      · have hle' : (v : Int) ≤ 1000000000000 := by omega
        refine seg cfg10_ok mixed PanicFree.body 1000 [false] [] hr2 (by first | trivial | exact HpRep.nil | assumption) (by kernel_rfl) fun s_ hs_ => ?_
        simp (maxSteps := 10000000) [SX.vc, SX.stop, SX.contS, SX.contB, SX.contW, SX.contR, SX.contD, SX.sxStep, SX.stepPure, SX.stepNew, SX.stepStore, SX.stepKeep, SX.guardIx, SX.evOp, SX.opd, SX.opds, SX.optOpd, SX.look, SX.putS, SX.gobs, SX.AllP, SX.leave, SX.lookC, SX.lookB, SX.lookT, SX.lookN, SX.findK, SX.evBuiltin, SX.ints, SX.foldI, SX.evBin, SX.evInt, SX.evStr, SX.evEq, SX.arith, SX.evLoad, SX.shapeUp, SX.evFieldAddr, SX.evField, SX.evIndexAddr, SX.evIndex, SX.evFill, SX.evBuild, SX.szs, SX.cellsV, SX.evNew, SX.evStore, SX.spliceL, SX.SV.cells, SX.evConv, SX.evSlice, SX.bnd, SX.evNil, SX.evUn, SX.evPick, SX.pickOpd, SX.popTo, SX.cnd, SX.env0, SX.TD.isAgg, SX.TD.isIface, SX.tails, SX.NotAgg, SX.evLookup, SX.evConvH, SX.evPtrEq, SX.isCells, SX.thaw, SX.frz, SX.fixB, SX.rootIx, SX.Froz, SX.frzStep, SX.fork, Go.Value.cells, Go.undef, cfg10, BtoList, litToList, B_size, B_ch, hkk, hle']
        refine ⟨by (unfold SX.Ob; first | trivial | omega | ((try simp only [SX.inK]); (try simp [SX.den, SX.IsU8, SX.AllP, *]); (try omega))), ?_⟩
        intro a3 w3 hr3 _
        exact post_retn (end2 hr3 rfl rfl rfl ⟨⟨_, _, rfl, .inl ⟨v, by rw [hnum, if_pos hle], rfl, rfl⟩⟩, hr3.keeps.toBelow⟩).1
      · have hle' : ¬ (v : Int) ≤ 1000000000000 := by omega
        refine seg cfg10_ok mixed PanicFree.body 1000 [false] [] hr2 (by first | trivial | exact HpRep.nil | assumption) (by kernel_rfl) fun s_ hs_ => ?_
        simp (maxSteps := 10000000) [SX.vc, SX.stop, SX.contS, SX.contB, SX.contW, SX.contR, SX.contD, SX.sxStep, SX.stepPure, SX.stepNew, SX.stepStore, SX.stepKeep, SX.guardIx, SX.evOp, SX.opd, SX.opds, SX.optOpd, SX.look, SX.putS, SX.gobs, SX.AllP, SX.leave, SX.lookC, SX.lookB, SX.lookT, SX.lookN, SX.findK, SX.evBuiltin, SX.ints, SX.foldI, SX.evBin, SX.evInt, SX.evStr, SX.evEq, SX.arith, SX.evLoad, SX.shapeUp, SX.evFieldAddr, SX.evField, SX.evIndexAddr, SX.evIndex, SX.evFill, SX.evBuild, SX.szs, SX.cellsV, SX.evNew, SX.evStore, SX.spliceL, SX.SV.cells, SX.evConv, SX.evSlice, SX.bnd, SX.evNil, SX.evUn, SX.evPick, SX.pickOpd, SX.popTo, SX.cnd, SX.env0, SX.TD.isAgg, SX.TD.isIface, SX.tails, SX.NotAgg, SX.evLookup, SX.evConvH, SX.evPtrEq, SX.isCells, SX.thaw, SX.frz, SX.fixB, SX.rootIx, SX.Froz, SX.frzStep, SX.fork, Go.Value.cells, Go.undef, cfg10, BtoList, litToList, B_size, B_ch, hkk, hle']
        refine ⟨by (unfold SX.Ob; first | trivial | omega | ((try simp only [SX.inK]); (try simp [SX.den, SX.IsU8, SX.AllP, *]); (try omega))), ?_⟩
        intro a3 w3 hr3 _
        exact post_retn (end2 hr3 rfl rfl rfl ⟨⟨_, _, rfl, .inr ⟨by rw [hnum, if_neg hle], rfl⟩⟩, hr3.keeps.toBelow⟩).1
end Go.Proofs
