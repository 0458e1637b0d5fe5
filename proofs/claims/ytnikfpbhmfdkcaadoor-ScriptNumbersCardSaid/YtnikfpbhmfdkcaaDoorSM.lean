/- Script: a script that is written. -/
import Derived.Test.YtnikfpbhmfdkcaaDoorSL
namespace Go.Proofs
set_option linter.unusedVariables false
set_option linter.unusedSimpArgs false
set_option linter.unusedSectionVars false
open Go Go.SX Go.RowKit Go.Script

theorem printP_snoc (L : List Stp) (x : Stp) : printP (L ++ [x]) = stepP (printP L) x := by simp [printP]
theorem foldP_len : ∀ (L : List Stp) (s : Pr), (L.foldl stepP s).bs.length ≤ s.bs.length + 100 * L.length
  | [], s => by simp
  | x :: L, s => by
    have h1 := foldP_len L (stepP s x)
    have h2 := stepP_len s x
    simp only [List.foldl_cons, List.length_cons]
    omega
theorem printP_len (L : List Stp) : (printP L).bs.length ≤ 100 * L.length := by
  have := foldP_len L ⟨[], false⟩
  simpa [printP] using this
def fromB (B : Nat) (w : World) : List Nat := (List.range w.heap.size).filter fun k => decide (B ≤ k)
theorem keeps_fromB {B : Nat} {w w' : World} (h : Below B w w') : KeepsTo w (fromB B w) w' :=
  ⟨Nat.le_refl _, h.os, h.tape, h.output, h.size, fun k hk hm => h.block k (by
    rcases Nat.lt_or_ge k B with h1 | h1
    · exact h1
    · exact absurd (by simp [fromB]; exact ⟨hk, h1⟩) hm)⟩
/-- What Print answers. -/
def printR (L : List Stp) : L8 × Int := if (printP L).bad then ([], 1) else if 100000 < (printP L).bs.length then ([], 2) else ((printP L).bs, 0)
def PrintL (w : World) (L : List Stp) (b : Nat) (v : Value) (ln : Nat) (m : Nat) (a : Act) (w' : World) : Prop :=
  ∃ k : Nat, m = ln - k ∧ k ≤ ln ∧ PrA w.heap.size b (printP (L.take k)).bs (printP (L.take k)).bad w' ∧ RepX (frame0 w) ⟨[(11, 0, .v (.int .i64 k)), (10, 0, .v (.int .i64 ln)), (9, 0, .v v), (4, 0, .v (.pointer (some ⟨b, 0, none⟩)))], [], 0, 0, 34, [], [], []⟩ a w'

set_option maxRecDepth 100000 in
set_option maxHeartbeats 16000000 in
/-- Print. -/
theorem print_ok (w : World) (v : Value) (L : List Stp) (hL : RdT (fun x => x < w.heap.size) w v L) (hn : L.length ≤ 100000000) (hby : ∀ x ∈ L, 0 ≤ x.a.by_ ∧ x.a.by_ < 256) : Calls Tryd.prog 6 (denL [.v v]).toArray w fun e w' =>
    e = .returned (den (.tu [.v (.string (Script.B (printR L).1)), .v (.int .i64 (printR L).2)])) ∧ Below w.heap.size w w' := by
  obtain ⟨ad, cp, rfl⟩ := hL.slice
  obtain ⟨ln, hln⟩ : ∃ ln, L.length = ln := ⟨_, rfl⟩
  rw [hln] at hL hn ⊢
  refine enter (F := frame0 w) Tryd.func6 rfl [.v (.slice ad ln cp)] [] (by simp [Tryd.f6]) trivial (keeps0 w) fun a hr => ?_
  refine seg cfg6_ok mixed PanicFree.body 1000 [] [] hr (by first | trivial | exact HpRep.nil | assumption) (by kernel_rfl) fun b hb => ?_
  simp (maxSteps := 10000000) [SX.vc, SX.stop, SX.contS, SX.contB, SX.contW, SX.contR, SX.contD, SX.sxStep, SX.stepPure, SX.stepNew, SX.stepStore, SX.stepKeep, SX.guardIx, SX.evOp, SX.opd, SX.opds, SX.optOpd, SX.look, SX.putS, SX.gobs, SX.AllP, SX.leave, SX.lookC, SX.lookB, SX.lookT, SX.lookN, SX.findK, SX.evBuiltin, SX.ints, SX.foldI, SX.evBin, SX.evInt, SX.evStr, SX.evEq, SX.arith, SX.evLoad, SX.shapeUp, SX.evFieldAddr, SX.evField, SX.evIndexAddr, SX.evIndex, SX.evFill, SX.evBuild, SX.szs, SX.cellsV, SX.evNew, SX.evStore, SX.spliceL, SX.SV.cells, SX.evConv, SX.evSlice, SX.bnd, SX.evNil, SX.evUn, SX.evPick, SX.pickOpd, SX.popTo, SX.cnd, SX.env0, SX.TD.isAgg, SX.TD.isIface, SX.tails, SX.NotAgg, SX.evLookup, SX.evConvH, SX.evPtrEq, SX.isCells, SX.thaw, SX.frz, SX.fixB, SX.rootIx, SX.Froz, SX.frzStep, SX.fork, Go.Value.cells, Go.undef, cfg6, Tryd.f6]
  refine ⟨by (unfold SX.Ob; first | trivial | omega | ((try simp only [SX.inK]); (try simp [SX.den, SX.IsU8, SX.AllP, *]); (try omega))), ?_⟩
  intro a1 w1 hr1 _
  have hA1 := hr1.all
  have hP1 : PrA w.heap.size b [] false w1 := ⟨b, by omega, .pointer none, .slice none 0 0, .inl rfl, hA1.1.1, World.ownsRow_nil _ _ _ _, .inl ⟨rfl, rfl⟩⟩
  have hlenB := printP_len L
  refine post_loop (PrintL w L b (.slice ad ln cp) ln) _ ⟨0, rfl, by omega, hP1, hr1.re (by simp [envTo, SX.look, den]) trivial rfl rfl⟩ ?_
  clear hr hr1 hA1 hP1
  rintro m a2 w2 ⟨k, rfl, hk, hP2, hr2⟩
  have hblt := hP2.lt
  have hbB : w.heap.size ≤ b := by obtain ⟨g, h1, _⟩ := hP2; exact h1
  have hmB : ∀ w' : World, ∀ x ∈ mB w.heap.size b w', (frame0 w).B ≤ x ∨ x ∈ (frame0 w).M := fun w' x hx => .inl ((mem_mB.1 hx).2.elim (fun h => by rw [h]; exact hbB) fun h => h.1)
  by_cases hlt : k < ln
  · obtain ⟨fb, fo, fc, fu, ffz, hfP, hfv, hfrep⟩ := (hL.below hr2.keeps.toBelow).opn (show k < L.length by omega)
    rw [hln] at hfv hfrep
    cases hfv
    obtain ⟨x, hx⟩ : ∃ x, nth zs L k = x := ⟨_, rfl⟩
    have hxL : x ∈ L := by rw [← hx]; exact nth_mem (by omega)
    have h3 := (hr2.top 9 (.sl 0 fb fo 0 ln cp 9) rfl (by simp [den])).see [(fb, false, .arr fo ln (fun j => stepRow (nth zs L j)) 9 fu ffz)] (HpAll.one hfrep)
    have hlk : (k : Int) < (ln : Int) := by omega
    refine seg cfg6_ok mixed PanicFree.body 1000 [true] [] h3.rebase (by first | trivial | exact HpRep.nil | assumption) (by kernel_rfl) fun tB htB => ?_
    simp (maxSteps := 10000000) [SX.vc, SX.stop, SX.contS, SX.contB, SX.contW, SX.contR, SX.contD, SX.sxStep, SX.stepPure, SX.stepNew, SX.stepStore, SX.stepKeep, SX.guardIx, SX.evOp, SX.opd, SX.opds, SX.optOpd, SX.look, SX.putS, SX.gobs, SX.AllP, SX.leave, SX.lookC, SX.lookB, SX.lookT, SX.lookN, SX.findK, SX.evBuiltin, SX.ints, SX.foldI, SX.evBin, SX.evInt, SX.evStr, SX.evEq, SX.arith, SX.evLoad, SX.shapeUp, SX.evFieldAddr, SX.evField, SX.evIndexAddr, SX.evIndex, SX.evFill, SX.evBuild, SX.szs, SX.cellsV, SX.evNew, SX.evStore, SX.spliceL, SX.SV.cells, SX.evConv, SX.evSlice, SX.bnd, SX.evNil, SX.evUn, SX.evPick, SX.pickOpd, SX.popTo, SX.cnd, SX.env0, SX.TD.isAgg, SX.TD.isIface, SX.tails, SX.NotAgg, SX.evLookup, SX.evConvH, SX.evPtrEq, SX.isCells, SX.thaw, SX.frz, SX.fixB, SX.rootIx, SX.Froz, SX.frzStep, SX.fork, Go.Value.cells, Go.undef, cfg6, stepRow, hx, hlk, hlt]
    refine ⟨by (unfold SX.Ob; first | trivial | omega | ((try simp only [SX.inK]); (try simp [SX.den, SX.IsU8, SX.AllP, *]); (try omega))), ?_⟩
    intro a4 w4 hr4' _
    have hr4 := h3.unbase hr4'
    have hP4 := hP2.keep hr4'.keeps (by simp [frameAt, mutB])
    have htake : printP (L.take (k + 1)) = stepP (printP (L.take k)) x := by rw [take_nth (d := zs) (by omega), hx, printP_snoc]
    have hlk2 := printP_len (L.take k)
    rw [List.length_take] at hlk2
    have hst := stepP_ok w4 w.heap.size b _ _ x hP4 (by omega) (hby x hxL)
    refine post_call 11 [.v (.pointer (some ⟨b, 0, none⟩)), .ag (stepRow x)] hr4 (wanted_none rfl) rfl (callable 11 Tryd.func11) hst ?_
    rintro e5 w5 ⟨rfl, hP5, hk5⟩
    refine ⟨_, rfl, ?_⟩
    have h5 := hr4.retK hk5 (hmB w4) 17 (.tu []) rfl [] trivial (by simp) rfl
    refine seg cfg6_ok mixed PanicFree.body 1000 [] [] h5.rebase (by first | trivial | exact HpRep.nil | assumption) (by kernel_rfl) fun s_ hs_ => ?_
    simp (maxSteps := 10000000) [SX.vc, SX.stop, SX.contS, SX.contB, SX.contW, SX.contR, SX.contD, SX.sxStep, SX.stepPure, SX.stepNew, SX.stepStore, SX.stepKeep, SX.guardIx, SX.evOp, SX.opd, SX.opds, SX.optOpd, SX.look, SX.putS, SX.gobs, SX.AllP, SX.leave, SX.lookC, SX.lookB, SX.lookT, SX.lookN, SX.findK, SX.evBuiltin, SX.ints, SX.foldI, SX.evBin, SX.evInt, SX.evStr, SX.evEq, SX.arith, SX.evLoad, SX.shapeUp, SX.evFieldAddr, SX.evField, SX.evIndexAddr, SX.evIndex, SX.evFill, SX.evBuild, SX.szs, SX.cellsV, SX.evNew, SX.evStore, SX.spliceL, SX.SV.cells, SX.evConv, SX.evSlice, SX.bnd, SX.evNil, SX.evUn, SX.evPick, SX.pickOpd, SX.popTo, SX.cnd, SX.env0, SX.TD.isAgg, SX.TD.isIface, SX.tails, SX.NotAgg, SX.evLookup, SX.evConvH, SX.evPtrEq, SX.isCells, SX.thaw, SX.frz, SX.fixB, SX.rootIx, SX.Froz, SX.frzStep, SX.fork, Go.Value.cells, Go.undef, cfg6]
    refine ⟨by (unfold SX.Ob; first | trivial | omega | ((try simp only [SX.inK]); (try simp [SX.den, SX.IsU8, SX.AllP, *]); (try omega))), ?_⟩
    intro a6 w6 hr6' _
    have hr6 := h5.unbase hr6'
    have hP6 := hP5.keep hr6'.keeps (by simp [frameAt, mutB])
    exact post_rnd (ln - (k + 1)) (by omega) ⟨k + 1, rfl, hlt, by rw [htake]; exact hP6, hr6.re (by simp [envTo, SX.look, den]) trivial rfl rfl⟩
  obtain rfl : k = ln := by omega
  have hkk : ¬ (k : Int) < (k : Int) := by omega
  rw [List.take_of_length_le (by omega)] at hP2
  obtain ⟨⟨bs, bad⟩, hpl⟩ : ∃ s, printP L = s := ⟨_, rfl⟩
  have hR : printR L = if bad then ([], 1) else if 100000 < bs.length then ([], 2) else (bs, 0) := by unfold printR; rw [hpl]
  rw [hpl] at hP2 hlenB
  simp only at hP2 hlenB
  obtain ⟨p, v, hpb, hcl⟩ := hP2.opn
  have h3 := (hr2.top 4 (.ptr 0 b 0) rfl (by simp [den])).see [(b, false, .cells [.v p, .v v, .v (.bool bad)] 46)] ⟨⟨hpb, by simp, by simp⟩, trivial⟩
  cases bad with
  | true =>
    refine seg cfg6_ok mixed PanicFree.body 1000 [false, true] [] h3 (by first | trivial | exact HpRep.nil | assumption) (by kernel_rfl) fun s_ hs_ => ?_
    simp (maxSteps := 10000000) [SX.vc, SX.stop, SX.contS, SX.contB, SX.contW, SX.contR, SX.contD, SX.sxStep, SX.stepPure, SX.stepNew, SX.stepStore, SX.stepKeep, SX.guardIx, SX.evOp, SX.opd, SX.opds, SX.optOpd, SX.look, SX.putS, SX.gobs, SX.AllP, SX.leave, SX.lookC, SX.lookB, SX.lookT, SX.lookN, SX.findK, SX.evBuiltin, SX.ints, SX.foldI, SX.evBin, SX.evInt, SX.evStr, SX.evEq, SX.arith, SX.evLoad, SX.shapeUp, SX.evFieldAddr, SX.evField, SX.evIndexAddr, SX.evIndex, SX.evFill, SX.evBuild, SX.szs, SX.cellsV, SX.evNew, SX.evStore, SX.spliceL, SX.SV.cells, SX.evConv, SX.evSlice, SX.bnd, SX.evNil, SX.evUn, SX.evPick, SX.pickOpd, SX.popTo, SX.cnd, SX.env0, SX.TD.isAgg, SX.TD.isIface, SX.tails, SX.NotAgg, SX.evLookup, SX.evConvH, SX.evPtrEq, SX.isCells, SX.thaw, SX.frz, SX.fixB, SX.rootIx, SX.Froz, SX.frzStep, SX.fork, Go.Value.cells, Go.undef, cfg6, hkk]
    refine ⟨by (unfold SX.Ob; first | trivial | omega | ((try simp only [SX.inK]); (try simp [SX.den, SX.IsU8, SX.AllP, *]); (try omega))), ?_⟩
    intro a4 w4 hr4 _
    exact post_retn (end2 hr4 rfl rfl rfl ⟨by rw [hR]; rfl, hr4.keeps.toBelow⟩).1
  | false =>
    refine seg cfg6_ok mixed PanicFree.body 1000 [false, false] [] h3.rebase (by first | trivial | exact HpRep.nil | assumption) (by kernel_rfl) fun s_ hs_ => ?_
    simp (maxSteps := 10000000) [SX.vc, SX.stop, SX.contS, SX.contB, SX.contW, SX.contR, SX.contD, SX.sxStep, SX.stepPure, SX.stepNew, SX.stepStore, SX.stepKeep, SX.guardIx, SX.evOp, SX.opd, SX.opds, SX.optOpd, SX.look, SX.putS, SX.gobs, SX.AllP, SX.leave, SX.lookC, SX.lookB, SX.lookT, SX.lookN, SX.findK, SX.evBuiltin, SX.ints, SX.foldI, SX.evBin, SX.evInt, SX.evStr, SX.evEq, SX.arith, SX.evLoad, SX.shapeUp, SX.evFieldAddr, SX.evField, SX.evIndexAddr, SX.evIndex, SX.evFill, SX.evBuild, SX.szs, SX.cellsV, SX.evNew, SX.evStore, SX.spliceL, SX.SV.cells, SX.evConv, SX.evSlice, SX.bnd, SX.evNil, SX.evUn, SX.evPick, SX.pickOpd, SX.popTo, SX.cnd, SX.env0, SX.TD.isAgg, SX.TD.isIface, SX.tails, SX.NotAgg, SX.evLookup, SX.evConvH, SX.evPtrEq, SX.isCells, SX.thaw, SX.frz, SX.fixB, SX.rootIx, SX.Froz, SX.frzStep, SX.fork, Go.Value.cells, Go.undef, cfg6, hkk]
    refine ⟨by (unfold SX.Ob; first | trivial | omega | ((try simp only [SX.inK]); (try simp [SX.den, SX.IsU8, SX.AllP, *]); (try omega))), ?_⟩
    intro a4 w4 hr4' _
    have hr4 := h3.unbase hr4'
    have hP4 := hP2.keep hr4'.keeps (by simp [frameAt, mutB])
    have hlen : Calls Tryd.prog 12 (denL [.ptr 0 b 0]).toArray w4 fun e w' => e = .returned (den (.v (.int .i64 bs.length))) ∧ Below w4.heap.size w4 w' := by
      obtain ⟨g, hg⟩ := hP4
      exact (len_ok hg).mono fun e w' ⟨h1, h2⟩ => ⟨h1, by rw [h2]; exact Below.refl _ _⟩
    obtain ⟨bl, hbl⟩ : ∃ bl, bs.length = bl := ⟨_, rfl⟩
    rw [hbl] at hlen
    refine post_call 12 [.ptr 0 b 0] hr4 (by first | exact wanted_none rfl | exact wanted_zero (hr4.env.same rfl rfl rfl rfl) rfl (by simp) | exact wanted_zero (hr4.env.same rfl rfl rfl rfl) rfl (by simp [*])) rfl (callable 12 Tryd.func12) (hlen) ?_
    rintro e5 w5 ⟨rfl, hb5⟩
    refine ⟨_, rfl, ?_⟩
    have h5 := hr4.ret hb5 28 (.v (.int .i64 bl)) rfl _ (hr4.all.below hb5) (by simp) rfl
    have hP5 := hP4.below hb5
    by_cases hlong : 100000 < bl
    · have hli : (100000 : Int) < (bl : Int) := by omega
      refine seg cfg6_ok mixed PanicFree.body 1000 [true] [] h5 (by first | trivial | exact HpRep.nil | assumption) (by kernel_rfl) fun s_ hs_ => ?_
      simp (maxSteps := 10000000) [SX.vc, SX.stop, SX.contS, SX.contB, SX.contW, SX.contR, SX.contD, SX.sxStep, SX.stepPure, SX.stepNew, SX.stepStore, SX.stepKeep, SX.guardIx, SX.evOp, SX.opd, SX.opds, SX.optOpd, SX.look, SX.putS, SX.gobs, SX.AllP, SX.leave, SX.lookC, SX.lookB, SX.lookT, SX.lookN, SX.findK, SX.evBuiltin, SX.ints, SX.foldI, SX.evBin, SX.evInt, SX.evStr, SX.evEq, SX.arith, SX.evLoad, SX.shapeUp, SX.evFieldAddr, SX.evField, SX.evIndexAddr, SX.evIndex, SX.evFill, SX.evBuild, SX.szs, SX.cellsV, SX.evNew, SX.evStore, SX.spliceL, SX.SV.cells, SX.evConv, SX.evSlice, SX.bnd, SX.evNil, SX.evUn, SX.evPick, SX.pickOpd, SX.popTo, SX.cnd, SX.env0, SX.TD.isAgg, SX.TD.isIface, SX.tails, SX.NotAgg, SX.evLookup, SX.evConvH, SX.evPtrEq, SX.isCells, SX.thaw, SX.frz, SX.fixB, SX.rootIx, SX.Froz, SX.frzStep, SX.fork, Go.Value.cells, Go.undef, cfg6, hli]
      refine ⟨by (unfold SX.Ob; first | trivial | omega | ((try simp only [SX.inK]); (try simp [SX.den, SX.IsU8, SX.AllP, *]); (try omega))), ?_⟩
      intro a6 w6 hr6 _
      exact post_retn (end2 hr6 rfl rfl rfl ⟨by rw [hR, hbl, if_pos hlong]; rfl, hr6.keeps.toBelow⟩).1
    · have hli : ¬ (100000 : Int) < (bl : Int) := by omega
      refine seg cfg6_ok mixed PanicFree.body 1000 [false] [] h5.rebase (by first | trivial | exact HpRep.nil | assumption) (by kernel_rfl) fun s_ hs_ => ?_
      simp (maxSteps := 10000000) [SX.vc, SX.stop, SX.contS, SX.contB, SX.contW, SX.contR, SX.contD, SX.sxStep, SX.stepPure, SX.stepNew, SX.stepStore, SX.stepKeep, SX.guardIx, SX.evOp, SX.opd, SX.opds, SX.optOpd, SX.look, SX.putS, SX.gobs, SX.AllP, SX.leave, SX.lookC, SX.lookB, SX.lookT, SX.lookN, SX.findK, SX.evBuiltin, SX.ints, SX.foldI, SX.evBin, SX.evInt, SX.evStr, SX.evEq, SX.arith, SX.evLoad, SX.shapeUp, SX.evFieldAddr, SX.evField, SX.evIndexAddr, SX.evIndex, SX.evFill, SX.evBuild, SX.szs, SX.cellsV, SX.evNew, SX.evStore, SX.spliceL, SX.SV.cells, SX.evConv, SX.evSlice, SX.bnd, SX.evNil, SX.evUn, SX.evPick, SX.pickOpd, SX.popTo, SX.cnd, SX.env0, SX.TD.isAgg, SX.TD.isIface, SX.tails, SX.NotAgg, SX.evLookup, SX.evConvH, SX.evPtrEq, SX.isCells, SX.thaw, SX.frz, SX.fixB, SX.rootIx, SX.Froz, SX.frzStep, SX.fork, Go.Value.cells, Go.undef, cfg6, hli]
      refine ⟨by (unfold SX.Ob; first | trivial | omega | ((try simp only [SX.inK]); (try simp [SX.den, SX.IsU8, SX.AllP, *]); (try omega))), ?_⟩
      intro a6 w6 hr6' _
      have hr6 := h5.unbase hr6'
      have hP6 := hP5.keep hr6'.keeps (by simp [frameAt, mutB])
      have hstr : Calls Tryd.prog 13 (denL [.ptr 0 b 0]).toArray w6 fun e w' => e = .returned (den (.v (.string (Script.B bs)))) ∧ Below w.heap.size w6 w' := by
        obtain ⟨g, hg⟩ := hP6
        exact (string_ok hg).mono fun e w' ⟨h1, h2⟩ => ⟨h1, h2⟩
      refine post_call 13 [.ptr 0 b 0] hr6 (wanted_none rfl) rfl (callable 13 Tryd.func13) hstr ?_
      rintro e7 w7 ⟨rfl, hb7⟩
      refine ⟨_, rfl, ?_⟩
      have h7 := hr6.retK (keeps_fromB hb7) (fun x hx => .inl (by simp [fromB] at hx; exact hx.2)) 33 (.v (.string (Script.B bs))) rfl [] trivial (by simp) rfl
      refine seg cfg6_ok mixed PanicFree.body 1000 [] [] h7 (by first | trivial | exact HpRep.nil | assumption) (by kernel_rfl) fun s_ hs_ => ?_
      simp (maxSteps := 10000000) [SX.vc, SX.stop, SX.contS, SX.contB, SX.contW, SX.contR, SX.contD, SX.sxStep, SX.stepPure, SX.stepNew, SX.stepStore, SX.stepKeep, SX.guardIx, SX.evOp, SX.opd, SX.opds, SX.optOpd, SX.look, SX.putS, SX.gobs, SX.AllP, SX.leave, SX.lookC, SX.lookB, SX.lookT, SX.lookN, SX.findK, SX.evBuiltin, SX.ints, SX.foldI, SX.evBin, SX.evInt, SX.evStr, SX.evEq, SX.arith, SX.evLoad, SX.shapeUp, SX.evFieldAddr, SX.evField, SX.evIndexAddr, SX.evIndex, SX.evFill, SX.evBuild, SX.szs, SX.cellsV, SX.evNew, SX.evStore, SX.spliceL, SX.SV.cells, SX.evConv, SX.evSlice, SX.bnd, SX.evNil, SX.evUn, SX.evPick, SX.pickOpd, SX.popTo, SX.cnd, SX.env0, SX.TD.isAgg, SX.TD.isIface, SX.tails, SX.NotAgg, SX.evLookup, SX.evConvH, SX.evPtrEq, SX.isCells, SX.thaw, SX.frz, SX.fixB, SX.rootIx, SX.Froz, SX.frzStep, SX.fork, Go.Value.cells, Go.undef, cfg6]
      refine ⟨by (unfold SX.Ob; first | trivial | omega | ((try simp only [SX.inK]); (try simp [SX.den, SX.IsU8, SX.AllP, *]); (try omega))), ?_⟩
      intro a8 w8 hr8 _
      exact post_retn (end2 hr8 rfl rfl rfl ⟨by rw [hR, hbl, if_neg hlong]; rfl, hr8.keeps.toBelow⟩).1
end Go.Proofs
