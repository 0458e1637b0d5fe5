/- Script: a text that is read. -/
import Derived.Test.YtnikfpbhmfdkcaaDoorSH
namespace Go.Proofs
set_option linter.unusedVariables false
set_option linter.unusedSimpArgs false
set_option linter.unusedSectionVars false
open Go Go.SX Go.RowKit Go.Script

def stepRow (x : Stp) : List SV := stepC x x.a.by_
def zs : Stp := ⟨0, 0, Ac.zero 0⟩
abbrev RdT (P : Nat → Prop) (w : World) (v : Value) (L : List Stp) : Prop := RdS stepRow 9 zs P w v L
abbrev OwT (P : Nat → Prop) (w : World) (v : Value) (L : List Stp) : Prop := OwS stepRow 9 zs P w v L
theorem flatT (L : List Stp) : ∀ x ∈ L, ∀ c ∈ stepRow x, NotAgg (den c) := by
  intro x _ c hc
  simp only [stepRow, stepC, List.mem_cons, List.not_mem_nil, or_false] at hc
  rcases hc with rfl | rfl | rfl | rfl | rfl | rfl | rfl | rfl | rfl <;> trivial
theorem read_none (w : World) (l : L8) (hl : l.length ≤ 200000) (h : readL l = none) : Calls Tryd.prog 15 (denL [.v (.string (B l))]).toArray w fun e w' => (∃ x b8, e = .returned (den (.tu [.ag (stepC x b8), .v (.bool false)]))) ∧ Below w.heap.size w w' :=
  (read_ok w l hl).mono fun e w' ⟨⟨x, b8, ok, he, hN⟩, hb⟩ => ⟨(by
    rcases hN with ⟨h1, _, _⟩ | ⟨_, rfl⟩
    · rw [h] at h1; cases h1
    · exact ⟨x, b8, he⟩), hb⟩
theorem read_some (w : World) (l : L8) (hl : l.length ≤ 200000) (x : Stp) (h : readL l = some x) : Calls Tryd.prog 15 (denL [.v (.string (B l))]).toArray w fun e w' => e = .returned (den (.tu [.ag (stepRow x), .v (.bool true)])) ∧ Below w.heap.size w w' :=
  (read_ok w l hl).mono fun e w' ⟨⟨x', b8, ok, he, hN⟩, hb⟩ => ⟨(by
    rcases hN with ⟨h1, rfl, rfl⟩ | ⟨h1, _⟩
    · rw [h] at h1; cases h1; exact he
    · rw [h] at h1; cases h1), hb⟩

theorem cutL_fst : ∀ l : L8, (cutL l).1.length ≤ l.length
  | [] => by simp [cutL]
  | c :: l => by
    unfold cutL
    split
    · simp
    · have := cutL_fst l
      simp only [List.length_cons]
      omega
theorem cutL_lt {l : L8} (h : l ≠ []) : (cutL l).2.1.length < l.length := by
  cases l with
  | nil => exact absurd rfl h
  | cons c l =>
    unfold cutL
    split
    · simp
    · have := cutL_le l
      simp only [List.length_cons]
      omega
/-- What Parse answers. -/
def ParseEnd (P : Nat → Prop) (r : List Stp × Nat × Int) (e : Ending) (w' : World) : Prop := ∃ v, e = .returned (den (.tu [.v v, .v (.int .i64 r.2.1), .v (.int .i64 r.2.2)])) ∧ RdT P w' v r.1
def ParseL (w : World) (R : List Stp × Nat × Int) (m : Nat) (a : Act) (w' : World) : Prop :=
  ∃ (f : Nat) (t : L8) (out : List Stp) (n : Nat) (v : Value), m = t.length ∧ t.length < f ∧ n + t.length ≤ 100001 ∧ out.length ≤ n ∧ R = parseF f t out n ∧ OwT (fun x => w.heap.size ≤ x) w' v out ∧
    RepX (frame0 w) ⟨[(6, 0, .v (.int .i64 n)), (5, 0, .v v), (0, 0, .v (.string (B t)))], [], 0, 0, 43, [], [], []⟩ a w'

set_option maxRecDepth 100000 in
set_option maxHeartbeats 16000000 in
/-- Parse. -/
theorem parse_ok (w : World) (s : L8) : Calls Tryd.prog 7 (denL [.v (.string (B s))]).toArray w fun e w' => ParseEnd (fun x => w.heap.size ≤ x) (parseL s) e w' ∧ Below w.heap.size w w' := by
  refine enter (F := frame0 w) Tryd.func7 rfl [.v (.string (B s))] [] (by simp [Tryd.f7]) trivial (keeps0 w) fun a hr => ?_
  obtain ⟨ln, hln⟩ : ∃ ln, s.length = ln := ⟨_, rfl⟩
  by_cases hlong : 100000 < ln
  · have hl' : (100000 : Int) < (ln : Int) := by omega
    have hp : parseL s = ([], 0, 2) := by unfold parseL; rw [if_pos (by omega)]
    refine seg cfg7_ok mixed PanicFree.body 1000 [true] [] hr (by first | trivial | exact HpRep.nil | assumption) (by kernel_rfl) fun s_ hs_ => ?_
    simp (maxSteps := 10000000) [SX.vc, SX.stop, SX.contS, SX.contB, SX.contW, SX.contR, SX.contD, SX.sxStep, SX.stepPure, SX.stepNew, SX.stepStore, SX.stepKeep, SX.guardIx, SX.evOp, SX.opd, SX.opds, SX.optOpd, SX.look, SX.putS, SX.gobs, SX.AllP, SX.leave, SX.lookC, SX.lookB, SX.lookT, SX.lookN, SX.findK, SX.evBuiltin, SX.ints, SX.foldI, SX.evBin, SX.evInt, SX.evStr, SX.evEq, SX.arith, SX.evLoad, SX.shapeUp, SX.evFieldAddr, SX.evField, SX.evIndexAddr, SX.evIndex, SX.evFill, SX.evBuild, SX.szs, SX.cellsV, SX.evNew, SX.evStore, SX.spliceL, SX.SV.cells, SX.evConv, SX.evSlice, SX.bnd, SX.evNil, SX.evUn, SX.evPick, SX.pickOpd, SX.popTo, SX.cnd, SX.env0, SX.TD.isAgg, SX.TD.isIface, SX.tails, SX.NotAgg, SX.evLookup, SX.evConvH, SX.evPtrEq, SX.isCells, SX.thaw, SX.frz, SX.fixB, SX.rootIx, SX.Froz, SX.frzStep, SX.fork, Go.Value.cells, Go.undef, cfg7, Tryd.f7, B_size, hln, hl']
    refine ⟨by (unfold SX.Ob; first | trivial | omega | ((try simp only [SX.inK]); (try simp [SX.den, SX.IsU8, SX.AllP, *]); (try omega))), ?_⟩
    intro a1 w1 hr1 _
    exact post_retn (end3 hr1 rfl rfl rfl rfl ⟨by rw [hp]; exact ⟨_, rfl, .inl ⟨rfl, _, _, rfl⟩⟩, hr1.keeps.toBelow⟩).1
  have hl' : ¬ (100000 : Int) < (ln : Int) := by omega
  have hp : parseL s = parseF (s.length + 1) s [] 1 := by unfold parseL; rw [if_neg (by omega)]
  obtain ⟨R, hRd⟩ : ∃ R, parseF (s.length + 1) s [] 1 = R := ⟨_, rfl⟩
  rw [hp, hRd]
  refine seg cfg7_ok mixed PanicFree.body 1000 [false] [] hr (by first | trivial | exact HpRep.nil | assumption) (by kernel_rfl) fun s_ hs_ => ?_
  simp (maxSteps := 10000000) [SX.vc, SX.stop, SX.contS, SX.contB, SX.contW, SX.contR, SX.contD, SX.sxStep, SX.stepPure, SX.stepNew, SX.stepStore, SX.stepKeep, SX.guardIx, SX.evOp, SX.opd, SX.opds, SX.optOpd, SX.look, SX.putS, SX.gobs, SX.AllP, SX.leave, SX.lookC, SX.lookB, SX.lookT, SX.lookN, SX.findK, SX.evBuiltin, SX.ints, SX.foldI, SX.evBin, SX.evInt, SX.evStr, SX.evEq, SX.arith, SX.evLoad, SX.shapeUp, SX.evFieldAddr, SX.evField, SX.evIndexAddr, SX.evIndex, SX.evFill, SX.evBuild, SX.szs, SX.cellsV, SX.evNew, SX.evStore, SX.spliceL, SX.SV.cells, SX.evConv, SX.evSlice, SX.bnd, SX.evNil, SX.evUn, SX.evPick, SX.pickOpd, SX.popTo, SX.cnd, SX.env0, SX.TD.isAgg, SX.TD.isIface, SX.tails, SX.NotAgg, SX.evLookup, SX.evConvH, SX.evPtrEq, SX.isCells, SX.thaw, SX.frz, SX.fixB, SX.rootIx, SX.Froz, SX.frzStep, SX.fork, Go.Value.cells, Go.undef, cfg7, Tryd.f7, B_size, hln, hl']
  refine ⟨by (unfold SX.Ob; first | trivial | omega | ((try simp only [SX.inK]); (try simp [SX.den, SX.IsU8, SX.AllP, *]); (try omega))), ?_⟩
  intro a1 w1 hr1 _
  refine post_loop (ParseL w R) _ ⟨s.length + 1, s, [], 1, .slice none 0 0, rfl, by omega, by omega, by simp, hRd.symm, .inl ⟨rfl, _, rfl⟩, hr1.re (by simp [envTo, SX.look]) trivial rfl rfl⟩ ?_
  clear hr hr1 hRd hp
  rintro m a2 w2 ⟨f, t, out, n, v, rfl, hf, hn, hout, hpf, hO, hr2⟩
  obtain ⟨f, rfl⟩ : ∃ g, f = g + 1 := ⟨f - 1, by omega⟩
  by_cases ht : t = []
  · subst ht
    have hpr : R = (out, 0, 0) := by rw [hpf]; simp [parseF]
    refine seg cfg7_ok mixed PanicFree.body 1000 [false] [] hr2.rebase (by first | trivial | exact HpRep.nil | assumption) (by kernel_rfl) fun s_ hs_ => ?_
    simp (maxSteps := 10000000) [SX.vc, SX.stop, SX.contS, SX.contB, SX.contW, SX.contR, SX.contD, SX.sxStep, SX.stepPure, SX.stepNew, SX.stepStore, SX.stepKeep, SX.guardIx, SX.evOp, SX.opd, SX.opds, SX.optOpd, SX.look, SX.putS, SX.gobs, SX.AllP, SX.leave, SX.lookC, SX.lookB, SX.lookT, SX.lookN, SX.findK, SX.evBuiltin, SX.ints, SX.foldI, SX.evBin, SX.evInt, SX.evStr, SX.evEq, SX.arith, SX.evLoad, SX.shapeUp, SX.evFieldAddr, SX.evField, SX.evIndexAddr, SX.evIndex, SX.evFill, SX.evBuild, SX.szs, SX.cellsV, SX.evNew, SX.evStore, SX.spliceL, SX.SV.cells, SX.evConv, SX.evSlice, SX.bnd, SX.evNil, SX.evUn, SX.evPick, SX.pickOpd, SX.popTo, SX.cnd, SX.env0, SX.TD.isAgg, SX.TD.isIface, SX.tails, SX.NotAgg, SX.evLookup, SX.evConvH, SX.evPtrEq, SX.isCells, SX.thaw, SX.frz, SX.fixB, SX.rootIx, SX.Froz, SX.frzStep, SX.fork, Go.Value.cells, Go.undef, cfg7, BtoList, litToList]
    refine ⟨by (unfold SX.Ob; first | trivial | omega | ((try simp only [SX.inK]); (try simp [SX.den, SX.IsU8, SX.AllP, *]); (try omega))), ?_⟩
    intro a3 w3 hr3' _
    have hr3 := hr2.unbase hr3'
    exact post_retn (end3 hr3 rfl rfl rfl rfl ⟨by rw [hpr]; exact ⟨_, rfl, (hO.keep hr3'.keeps (by simp [frameAt, mutB])).rd⟩, hr3.keeps.toBelow⟩).1
  have hpt : R = match readL (cutL t).1, (cutL t).2.2 with
      | some x, true => parseF f (cutL t).2.1 (out ++ [x]) (n + 1)
      | _, _ => ([], n, 21) := by
    rw [hpf, parseF, if_neg ht]
    cases readL (cutL t).1 <;> cases (cutL t).2.2 <;> rfl
  have hlt := cutL_lt ht
  have hfst := cutL_fst t
  refine seg cfg7_ok mixed PanicFree.body 1000 [true] [] hr2.rebase (by first | trivial | exact HpRep.nil | assumption) (by kernel_rfl) fun s_ hs_ => ?_
  simp (maxSteps := 10000000) [SX.vc, SX.stop, SX.contS, SX.contB, SX.contW, SX.contR, SX.contD, SX.sxStep, SX.stepPure, SX.stepNew, SX.stepStore, SX.stepKeep, SX.guardIx, SX.evOp, SX.opd, SX.opds, SX.optOpd, SX.look, SX.putS, SX.gobs, SX.AllP, SX.leave, SX.lookC, SX.lookB, SX.lookT, SX.lookN, SX.findK, SX.evBuiltin, SX.ints, SX.foldI, SX.evBin, SX.evInt, SX.evStr, SX.evEq, SX.arith, SX.evLoad, SX.shapeUp, SX.evFieldAddr, SX.evField, SX.evIndexAddr, SX.evIndex, SX.evFill, SX.evBuild, SX.szs, SX.cellsV, SX.evNew, SX.evStore, SX.spliceL, SX.SV.cells, SX.evConv, SX.evSlice, SX.bnd, SX.evNil, SX.evUn, SX.evPick, SX.pickOpd, SX.popTo, SX.cnd, SX.env0, SX.TD.isAgg, SX.TD.isIface, SX.tails, SX.NotAgg, SX.evLookup, SX.evConvH, SX.evPtrEq, SX.isCells, SX.thaw, SX.frz, SX.fixB, SX.rootIx, SX.Froz, SX.frzStep, SX.fork, Go.Value.cells, Go.undef, cfg7, BtoList, litToList, ht]
  refine ⟨by (unfold SX.Ob; first | trivial | omega | ((try simp only [SX.inK]); (try simp [SX.den, SX.IsU8, SX.AllP, *]); (try omega))), ?_⟩
  intro a3 w3 hr3' _
  have hr3 := hr2.unbase hr3'
  have hO3 := hO.keep hr3'.keeps (by simp [frameAt, mutB])
  have hcut := cut_ok w3 t (by omega)
  obtain ⟨c1, hc1⟩ : ∃ c1, (cutL t).1 = c1 := ⟨_, rfl⟩
  obtain ⟨c2, hc2⟩ : ∃ c2, (cutL t).2.1 = c2 := ⟨_, rfl⟩
  obtain ⟨c3, hc3⟩ : ∃ c3, (cutL t).2.2 = c3 := ⟨_, rfl⟩
  rw [hc1, hc2, hc3] at hcut hpt
  rw [hc2] at hlt
  rw [hc1] at hfst
  refine post_call 14 [.v (.string (B t)), .v (.string ⟨#[10]⟩)] hr3 (by first | exact wanted_none rfl | exact wanted_zero (hr3.env.same rfl rfl rfl rfl) rfl (by simp) | exact wanted_zero (hr3.env.same rfl rfl rfl rfl) rfl (by simp [*])) rfl (callable 14 Tryd.func14) (hcut) ?_
  rintro e4 w4 ⟨rfl, hb4⟩
  refine ⟨_, rfl, ?_⟩
  have h4 := hr3.ret hb4 21 (.tu [.v (.string (B c1)), .v (.string (B c2)), .v (.bool c3)]) rfl _ (hr3.all.below hb4) (by simp) rfl
  have hO4 := hO3.below hb4
  refine seg cfg7_ok mixed PanicFree.body 1000 [] [] h4.rebase (by first | trivial | exact HpRep.nil | assumption) (by kernel_rfl) fun s_ hs_ => ?_
  simp (maxSteps := 10000000) [SX.vc, SX.stop, SX.contS, SX.contB, SX.contW, SX.contR, SX.contD, SX.sxStep, SX.stepPure, SX.stepNew, SX.stepStore, SX.stepKeep, SX.guardIx, SX.evOp, SX.opd, SX.opds, SX.optOpd, SX.look, SX.putS, SX.gobs, SX.AllP, SX.leave, SX.lookC, SX.lookB, SX.lookT, SX.lookN, SX.findK, SX.evBuiltin, SX.ints, SX.foldI, SX.evBin, SX.evInt, SX.evStr, SX.evEq, SX.arith, SX.evLoad, SX.shapeUp, SX.evFieldAddr, SX.evField, SX.evIndexAddr, SX.evIndex, SX.evFill, SX.evBuild, SX.szs, SX.cellsV, SX.evNew, SX.evStore, SX.spliceL, SX.SV.cells, SX.evConv, SX.evSlice, SX.bnd, SX.evNil, SX.evUn, SX.evPick, SX.pickOpd, SX.popTo, SX.cnd, SX.env0, SX.TD.isAgg, SX.TD.isIface, SX.tails, SX.NotAgg, SX.evLookup, SX.evConvH, SX.evPtrEq, SX.isCells, SX.thaw, SX.frz, SX.fixB, SX.rootIx, SX.Froz, SX.frzStep, SX.fork, Go.Value.cells, Go.undef, cfg7]
  refine ⟨by (unfold SX.Ob; first | trivial | omega | ((try simp only [SX.inK]); (try simp [SX.den, SX.IsU8, SX.AllP, *]); (try omega))), ?_⟩
  intro a5 w5 hr5' _
  have hr5 := h4.unbase hr5'
  have hO5 := hO4.keep hr5'.keeps (by simp [frameAt, mutB])
  cases hrd : readL c1 with
  | none =>
    rw [hrd] at hpt
    refine post_call 15 [.v (.string (B c1))] hr5 (by first | exact wanted_none rfl | exact wanted_zero (hr5.env.same rfl rfl rfl rfl) rfl (by simp) | exact wanted_zero (hr5.env.same rfl rfl rfl rfl) rfl (by simp [*])) rfl (callable 15 Tryd.func15) (read_none w5 c1 (by omega) hrd) ?_
    rintro e6 w6 ⟨⟨x, b8, rfl⟩, hb6⟩
    refine ⟨_, rfl, ?_⟩
    have h6 := hr5.ret hb6 27 (.tu [.ag (stepC x b8), .v (.bool false)]) rfl _ (hr5.all.below hb6) (by simp) rfl
    refine seg cfg7_ok mixed PanicFree.body 1000 [true] [(32, true)] h6 (by first | trivial | exact HpRep.nil | assumption) (by kernel_rfl) fun s_ hs_ => ?_
    simp (maxSteps := 10000000) [SX.vc, SX.stop, SX.contS, SX.contB, SX.contW, SX.contR, SX.contD, SX.sxStep, SX.stepPure, SX.stepNew, SX.stepStore, SX.stepKeep, SX.guardIx, SX.evOp, SX.opd, SX.opds, SX.optOpd, SX.look, SX.putS, SX.gobs, SX.AllP, SX.leave, SX.lookC, SX.lookB, SX.lookT, SX.lookN, SX.findK, SX.evBuiltin, SX.ints, SX.foldI, SX.evBin, SX.evInt, SX.evStr, SX.evEq, SX.arith, SX.evLoad, SX.shapeUp, SX.evFieldAddr, SX.evField, SX.evIndexAddr, SX.evIndex, SX.evFill, SX.evBuild, SX.szs, SX.cellsV, SX.evNew, SX.evStore, SX.spliceL, SX.SV.cells, SX.evConv, SX.evSlice, SX.bnd, SX.evNil, SX.evUn, SX.evPick, SX.pickOpd, SX.popTo, SX.cnd, SX.env0, SX.TD.isAgg, SX.TD.isIface, SX.tails, SX.NotAgg, SX.evLookup, SX.evConvH, SX.evPtrEq, SX.isCells, SX.thaw, SX.frz, SX.fixB, SX.rootIx, SX.Froz, SX.frzStep, SX.fork, Go.Value.cells, Go.undef, cfg7]
    refine ⟨by (unfold SX.Ob; first | trivial | omega | ((try simp only [SX.inK]); (try simp [SX.den, SX.IsU8, SX.AllP, *]); (try omega))), ?_⟩
    intro a7 w7 hr7 _
    exact post_retn (end3 hr7 rfl rfl rfl rfl ⟨by rw [hpt]; exact ⟨_, rfl, .inl ⟨rfl, _, _, rfl⟩⟩, hr7.keeps.toBelow⟩).1
  | some x =>
    rw [hrd] at hpt
    refine post_call 15 [.v (.string (B c1))] hr5 (by first | exact wanted_none rfl | exact wanted_zero (hr5.env.same rfl rfl rfl rfl) rfl (by simp) | exact wanted_zero (hr5.env.same rfl rfl rfl rfl) rfl (by simp [*])) rfl (callable 15 Tryd.func15) (read_some w5 c1 (by omega) x hrd) ?_
    rintro e6 w6 ⟨rfl, hb6⟩
    refine ⟨_, rfl, ?_⟩
    have h6 := hr5.ret hb6 27 (.tu [.ag (stepRow x), .v (.bool true)]) rfl _ (hr5.all.below hb6) (by simp) rfl
    have hO6 := hO5.below hb6
    cases c3 with
    | false =>
      refine seg cfg7_ok mixed PanicFree.body 1000 [true] [(32, false)] h6 (by first | trivial | exact HpRep.nil | assumption) (by kernel_rfl) fun s_ hs_ => ?_
      simp (maxSteps := 10000000) [SX.vc, SX.stop, SX.contS, SX.contB, SX.contW, SX.contR, SX.contD, SX.sxStep, SX.stepPure, SX.stepNew, SX.stepStore, SX.stepKeep, SX.guardIx, SX.evOp, SX.opd, SX.opds, SX.optOpd, SX.look, SX.putS, SX.gobs, SX.AllP, SX.leave, SX.lookC, SX.lookB, SX.lookT, SX.lookN, SX.findK, SX.evBuiltin, SX.ints, SX.foldI, SX.evBin, SX.evInt, SX.evStr, SX.evEq, SX.arith, SX.evLoad, SX.shapeUp, SX.evFieldAddr, SX.evField, SX.evIndexAddr, SX.evIndex, SX.evFill, SX.evBuild, SX.szs, SX.cellsV, SX.evNew, SX.evStore, SX.spliceL, SX.SV.cells, SX.evConv, SX.evSlice, SX.bnd, SX.evNil, SX.evUn, SX.evPick, SX.pickOpd, SX.popTo, SX.cnd, SX.env0, SX.TD.isAgg, SX.TD.isIface, SX.tails, SX.NotAgg, SX.evLookup, SX.evConvH, SX.evPtrEq, SX.isCells, SX.thaw, SX.frz, SX.fixB, SX.rootIx, SX.Froz, SX.frzStep, SX.fork, Go.Value.cells, Go.undef, cfg7, stepRow]
      refine ⟨by (unfold SX.Ob; first | trivial | omega | ((try simp only [SX.inK]); (try simp [SX.den, SX.IsU8, SX.AllP, *]); (try omega))), ?_⟩
      intro a7 w7 hr7 _
      exact post_retn (end3 hr7 rfl rfl rfl rfl ⟨by rw [hpt]; exact ⟨_, rfl, .inl ⟨rfl, _, _, rfl⟩⟩, hr7.keeps.toBelow⟩).1
    | true =>
      refine seg cfg7_ok mixed PanicFree.body 1000 [false] [(32, false)] h6.rebase (by first | trivial | exact HpRep.nil | assumption) (by kernel_rfl) fun s_ hs_ => ?_
      simp (maxSteps := 10000000) [SX.vc, SX.stop, SX.contS, SX.contB, SX.contW, SX.contR, SX.contD, SX.sxStep, SX.stepPure, SX.stepNew, SX.stepStore, SX.stepKeep, SX.guardIx, SX.evOp, SX.opd, SX.opds, SX.optOpd, SX.look, SX.putS, SX.gobs, SX.AllP, SX.leave, SX.lookC, SX.lookB, SX.lookT, SX.lookN, SX.findK, SX.evBuiltin, SX.ints, SX.foldI, SX.evBin, SX.evInt, SX.evStr, SX.evEq, SX.arith, SX.evLoad, SX.shapeUp, SX.evFieldAddr, SX.evField, SX.evIndexAddr, SX.evIndex, SX.evFill, SX.evBuild, SX.szs, SX.cellsV, SX.evNew, SX.evStore, SX.spliceL, SX.SV.cells, SX.evConv, SX.evSlice, SX.bnd, SX.evNil, SX.evUn, SX.evPick, SX.pickOpd, SX.popTo, SX.cnd, SX.env0, SX.TD.isAgg, SX.TD.isIface, SX.tails, SX.NotAgg, SX.evLookup, SX.evConvH, SX.evPtrEq, SX.isCells, SX.thaw, SX.frz, SX.fixB, SX.rootIx, SX.Froz, SX.frzStep, SX.fork, Go.Value.cells, Go.undef, cfg7, stepRow]
      refine ⟨by (unfold SX.Ob; first | trivial | omega | ((try simp only [SX.inK]); (try simp [SX.den, SX.IsU8, SX.AllP, *]); (try omega))), ?_⟩
      intro a7 w7 hr7' _
      have hr7 := h6.unbase hr7'
      have hO7 := hO6.keep hr7'.keeps (by simp [frameAt, mutB])
      have z7 : w.heap.size ≤ w7.heap.size := hr7.keeps.size
      refine post_app (C := cfg7) cfg7_ok hr7 (by first | exact wanted_none rfl | exact wanted_zero (hr7.env.same rfl rfl rfl rfl) rfl (by simp)) rfl (by simp) rfl rfl rfl rfl rfl rfl rfl rfl rfl (by decide) (flatT _) (by (try simp only [List.length_append, List.length_cons, List.length_nil, List.length_map, List.length_take]); omega) (fun x hx => Nat.le_trans z7 hx) hO7 (RdS.lit (x := x) hr7.all.2.1.1 rfl) [] (fun _ _ _ _ => trivial) (fun x hx => .inl hx) fun V8 a8 w8 B8 hO8 hB8 hk8 hr8 => ?_
      refine seg cfg7_ok mixed PanicFree.body 1000 [] [] hr8.rebase (by first | trivial | exact HpRep.nil | assumption) (by kernel_rfl) fun s_ hs_ => ?_
      simp (maxSteps := 10000000) [SX.vc, SX.stop, SX.contS, SX.contB, SX.contW, SX.contR, SX.contD, SX.sxStep, SX.stepPure, SX.stepNew, SX.stepStore, SX.stepKeep, SX.guardIx, SX.evOp, SX.opd, SX.opds, SX.optOpd, SX.look, SX.putS, SX.gobs, SX.AllP, SX.leave, SX.lookC, SX.lookB, SX.lookT, SX.lookN, SX.findK, SX.evBuiltin, SX.ints, SX.foldI, SX.evBin, SX.evInt, SX.evStr, SX.evEq, SX.arith, SX.evLoad, SX.shapeUp, SX.evFieldAddr, SX.evField, SX.evIndexAddr, SX.evIndex, SX.evFill, SX.evBuild, SX.szs, SX.cellsV, SX.evNew, SX.evStore, SX.spliceL, SX.SV.cells, SX.evConv, SX.evSlice, SX.bnd, SX.evNil, SX.evUn, SX.evPick, SX.pickOpd, SX.popTo, SX.cnd, SX.env0, SX.TD.isAgg, SX.TD.isIface, SX.tails, SX.NotAgg, SX.evLookup, SX.evConvH, SX.evPtrEq, SX.isCells, SX.thaw, SX.frz, SX.fixB, SX.rootIx, SX.Froz, SX.frzStep, SX.fork, Go.Value.cells, Go.undef, cfg7]
      refine ⟨by (unfold SX.Ob; first | trivial | omega | ((try simp only [SX.inK]); (try simp [SX.den, SX.IsU8, SX.AllP, *]); (try omega))), ?_⟩
      intro a9 w9 hr9' _
      have hr9 := hr8.unbase hr9'
      have hO9 := hO8.keep hr9'.keeps (by simp [frameAt, mutB])
      exact post_rnd c2.length hlt ⟨f, c2, out ++ [x], n + 1, V8, rfl, by omega, by omega, by simp; omega, hpt, hO9, hr9.re (by simp [envTo, SX.look]) trivial rfl rfl⟩
end Go.Proofs
