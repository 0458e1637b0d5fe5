/- Script: steps that are written. -/
import Derived.Test.YtnikfpbhmfdkcaaDoorSK
namespace Go.Proofs
set_option linter.unusedVariables false
set_option linter.unusedSimpArgs false
set_option linter.unusedSectionVars false
open Go Go.SX Go.RowKit Go.Script

theorem numsP_len : ∀ (fs : List Nat) (s : Pr) (a : Ac), (numsP fs s a).1.bs.length ≤ s.bs.length + 14 * fs.length
  | [], _, _ => by simp [numsP]
  | k :: fs, s, a => by
    unfold numsP
    have h1 := numsP_len fs (numP s (a.get k)) (a.set k 0)
    have h2 := numP_len s (a.get k)
    simp only [List.length_cons]
    omega
theorem flds_len (d : Int) : (flds d).length ≤ 5 := by
  unfold flds
  repeat' split
  all_goals simp
theorem actP_len (s : Pr) (a : Ac) : (actP s a).bs.length ≤ s.bs.length + 76 := by
  unfold actP
  have h1 := numsP_len (flds a.d) ⟨s.bs ++ 32 :: wordL actW a.d, s.bad || wordL actW a.d == []⟩ a
  have h2 := flds_len a.d
  have h3 := wordL_len a.d
  simp only [List.length_append, List.length_cons] at h1
  simp only
  omega
theorem stepW_len : ∀ q : Nat, q < 9 → (stepW.getD q []).length ≤ 5 := by decide
theorem wordS_len (d : Int) : (wordL stepW d).length ≤ 5 := by
  unfold wordL
  split
  · simp
  · rename_i hc
    have h13 : stepW.length = 9 := rfl
    exact stepW_len _ (by omega)
theorem stepP_len (s : Pr) (x : Stp) : (stepP s x).bs.length ≤ s.bs.length + 100 := by
  have h3 := wordS_len x.d
  have h1 := numP_len ⟨s.bs ++ wordL stepW x.d, s.bad⟩ x.who
  have h2 := actP_len (numP ⟨s.bs ++ wordL stepW x.d, s.bad⟩ x.who) x.a
  have h4 := actP_len ⟨s.bs ++ wordL stepW x.d, s.bad⟩ x.a
  simp only [List.length_append] at h1 h4
  unfold stepP
  simp only
  split
  · simp
  · split <;> split <;> simp only [List.length_append, List.length_cons, List.length_nil] <;> omega

def GoodC (wd : L8) (hw ha : Bool) (x : Stp) : Prop := ¬ (wd = [] ∨ (hw = false ∧ x.who ≠ 0) ∨ (ha = false ∧ x.a ≠ Ac.zero 0))

set_option maxRecDepth 100000 in
set_option maxHeartbeats 16000000 in
/-- step. -/
theorem stepP_ok (w : World) (B b : Nat) (bs : L8) (bad : Bool) (x : Stp) (h : PrA B b bs bad w) (hlen : bs.length ≤ 10000000000) (hby : 0 ≤ x.a.by_ ∧ x.a.by_ < 256) : Calls Tryd.prog 11 (denL [.v (.pointer (some ⟨b, 0, none⟩)), .ag (stepRow x)]).toArray w fun e w' =>
    e = .returned (.tuple #[]) ∧ PrA B b (stepP ⟨bs, bad⟩ x).bs (stepP ⟨bs, bad⟩ x).bad w' ∧ KeepsTo w (mB B b w) w' := by
  have hblt := h.lt
  have hmem : b ∈ mB B b w := h.b_mem
  refine enter (F := ⟨w, w.heap.size, mB B b w⟩) Tryd.func11 rfl [.v (.pointer (some ⟨b, 0, none⟩)), .ag (stepC x x.a.by_)] [] (by simp [Tryd.f11, denL, den, stepRow]) trivial (KeepsTo.refl w _) fun a hr => ?_
  refine seg cfg11_ok mixed PanicFree.body 1000 [] [] hr.rebase (by first | trivial | exact HpRep.nil | assumption) (by kernel_rfl) fun A1 hA1 => ?_
  simp (maxSteps := 10000000) [SX.vc, SX.stop, SX.contS, SX.contB, SX.contW, SX.contR, SX.contD, SX.sxStep, SX.stepPure, SX.stepNew, SX.stepStore, SX.stepKeep, SX.guardIx, SX.evOp, SX.opd, SX.opds, SX.optOpd, SX.look, SX.putS, SX.gobs, SX.AllP, SX.leave, SX.lookC, SX.lookB, SX.lookT, SX.lookN, SX.findK, SX.evBuiltin, SX.ints, SX.foldI, SX.evBin, SX.evInt, SX.evStr, SX.evEq, SX.arith, SX.evLoad, SX.shapeUp, SX.evFieldAddr, SX.evField, SX.evIndexAddr, SX.evIndex, SX.evFill, SX.evBuild, SX.szs, SX.cellsV, SX.evNew, SX.evStore, SX.spliceL, SX.SV.cells, SX.evConv, SX.evSlice, SX.bnd, SX.evNil, SX.evUn, SX.evPick, SX.pickOpd, SX.popTo, SX.cnd, SX.env0, SX.TD.isAgg, SX.TD.isIface, SX.tails, SX.NotAgg, SX.evLookup, SX.evConvH, SX.evPtrEq, SX.isCells, SX.thaw, SX.frz, SX.fixB, SX.rootIx, SX.Froz, SX.frzStep, SX.fork, Go.Value.cells, Go.undef, cfg11, Tryd.f11]
  refine ⟨by (unfold SX.Ob; first | trivial | omega | ((try simp only [SX.inK]); (try simp [SX.den, SX.IsU8, SX.AllP, *]); (try omega))), ?_⟩
  intro a1 w1 hr1' ht1
  have hr1 := hr.unbase hr1'
  have hP1 := h.keep hr1'.keeps (by simp [frameAt, mutB])
  have hA1 : A1 ≠ b := by omega
  have hne1 : ∀ e ∈ [(A1, true, SO.cells (stepC x x.a.by_) 39)], e.1 ≠ b := by simp; omega
  refine post_callD 17 [] hr1 rfl (by first | exact wanted_none rfl | exact wanted_zero (hr1.env.same rfl rfl rfl rfl) rfl (by simp) | exact wanted_zero (hr1.env.same rfl rfl rfl rfl) rfl (by simp [*])) rfl (callable 17 Tryd.func17) (stepWords_ok w1) ?_
  rintro e2 w2 ⟨⟨v2, rfl, hW2⟩, hb2⟩
  have ht2 := HpRep_below ht1 hb2
  refine ⟨_, rfl, ht2, ?_⟩
  have h2 := hr1.ret hb2 7 (.v v2) rfl _ (hr1.all.below hb2) (by simp) rfl
  have hP2 := hP1.below hb2
  have hword := word_ok w2 v2 stepW x.d (hW2.mono fun y h _ => h)
  obtain ⟨wd, hwd⟩ : ∃ wd, wordL stepW x.d = wd := ⟨_, rfl⟩
  have hwl : wd.length ≤ 5 := by rw [← hwd]; exact wordS_len _
  rw [hwd] at hword
  refine post_callD 16 [.v v2, .v (.int .i64 x.d)] h2 rfl (by first | exact wanted_none rfl | exact wanted_zero (h2.env.same rfl rfl rfl rfl) rfl (by simp) | exact wanted_zero (h2.env.same rfl rfl rfl rfl) rfl (by simp [*])) rfl (callable 16 Tryd.func16) (hword) ?_
  rintro e3 w3 ⟨rfl, hb3⟩
  have ht3 := HpRep_below ht2 hb3
  refine ⟨_, rfl, ht3, ?_⟩
  have h3 := h2.ret hb3 10 (.v (.string (Script.B wd))) rfl _ (h2.all.below hb3) (by simp) rfl
  have hP3 := hP2.below hb3
  refine seg cfg11_ok mixed PanicFree.body 1000 [] [] h3.rebase (by first | trivial | exact HpRep.nil | assumption) (by kernel_rfl) fun s_ hs_ => ?_
  simp (maxSteps := 10000000) [SX.vc, SX.stop, SX.contS, SX.contB, SX.contW, SX.contR, SX.contD, SX.sxStep, SX.stepPure, SX.stepNew, SX.stepStore, SX.stepKeep, SX.guardIx, SX.evOp, SX.opd, SX.opds, SX.optOpd, SX.look, SX.putS, SX.gobs, SX.AllP, SX.leave, SX.lookC, SX.lookB, SX.lookT, SX.lookN, SX.findK, SX.evBuiltin, SX.ints, SX.foldI, SX.evBin, SX.evInt, SX.evStr, SX.evEq, SX.arith, SX.evLoad, SX.shapeUp, SX.evFieldAddr, SX.evField, SX.evIndexAddr, SX.evIndex, SX.evFill, SX.evBuild, SX.szs, SX.cellsV, SX.evNew, SX.evStore, SX.spliceL, SX.SV.cells, SX.evConv, SX.evSlice, SX.bnd, SX.evNil, SX.evUn, SX.evPick, SX.pickOpd, SX.popTo, SX.cnd, SX.env0, SX.TD.isAgg, SX.TD.isIface, SX.tails, SX.NotAgg, SX.evLookup, SX.evConvH, SX.evPtrEq, SX.isCells, SX.thaw, SX.frz, SX.fixB, SX.rootIx, SX.Froz, SX.frzStep, SX.fork, Go.Value.cells, Go.undef, cfg11]
  refine ⟨by (unfold SX.Ob; first | trivial | omega | ((try simp only [SX.inK]); (try simp [SX.den, SX.IsU8, SX.AllP, *]); (try omega))), ?_⟩
  intro a4 w4 hr4' _
  have hr4 := h3.unbase hr4'
  have hP4 := hP3.keep hr4'.keeps (loc_mB h3.all rfl hne1)
  refine post_call 18 [.v (.int .i64 x.d)] hr4 (by first | exact wanted_none rfl | exact wanted_zero (hr4.env.same rfl rfl rfl rfl) rfl (by simp) | exact wanted_zero (hr4.env.same rfl rfl rfl rfl) rfl (by simp [*])) rfl (callable 18 Tryd.func18) (has_ok w4 x.d) ?_
  rintro e5 w5 ⟨rfl, hb5⟩
  refine ⟨_, rfl, ?_⟩
  have h5 := hr4.ret hb5 14 (.tu [.v (.bool (hasWho x.d)), .v (.bool (hasAct x.d))]) rfl _ (hr4.all.below hb5) (by simp) rfl
  have hP5 := hP4.below hb5
  obtain ⟨hw, hhw⟩ : ∃ hw, hasWho x.d = hw := ⟨_, rfl⟩
  obtain ⟨ha, hha⟩ : ∃ ha, hasAct x.d = ha := ⟨_, rfl⟩
  have h5t := h5.top 14 (.tu [.v (.bool hw), .v (.bool ha)]) rfl (by rw [hhw, hha])
  refine seg cfg11_ok mixed PanicFree.body 7 [] [] h5t.rebase (by first | trivial | exact HpRep.nil | assumption) (by kernel_rfl) fun s_ hs_ => ?_
  simp (maxSteps := 10000000) [SX.vc, SX.stop, SX.contS, SX.contB, SX.contW, SX.contR, SX.contD, SX.sxStep, SX.stepPure, SX.stepNew, SX.stepStore, SX.stepKeep, SX.guardIx, SX.evOp, SX.opd, SX.opds, SX.optOpd, SX.look, SX.putS, SX.gobs, SX.AllP, SX.leave, SX.lookC, SX.lookB, SX.lookT, SX.lookN, SX.findK, SX.evBuiltin, SX.ints, SX.foldI, SX.evBin, SX.evInt, SX.evStr, SX.evEq, SX.arith, SX.evLoad, SX.shapeUp, SX.evFieldAddr, SX.evField, SX.evIndexAddr, SX.evIndex, SX.evFill, SX.evBuild, SX.szs, SX.cellsV, SX.evNew, SX.evStore, SX.spliceL, SX.SV.cells, SX.evConv, SX.evSlice, SX.bnd, SX.evNil, SX.evUn, SX.evPick, SX.pickOpd, SX.popTo, SX.cnd, SX.env0, SX.TD.isAgg, SX.TD.isIface, SX.tails, SX.NotAgg, SX.evLookup, SX.evConvH, SX.evPtrEq, SX.isCells, SX.thaw, SX.frz, SX.fixB, SX.rootIx, SX.Froz, SX.frzStep, SX.fork, Go.Value.cells, Go.undef, cfg11]
  refine ⟨by (unfold SX.Ob; first | trivial | omega | ((try simp only [SX.inK]); (try simp [SX.den, SX.IsU8, SX.AllP, *]); (try omega))), ?_⟩
  intro a6 w6 hr6' _
  have hr6 := h5t.unbase hr6'
  have hP6 := hP5.keep hr6'.keeps (loc_mB h5t.all rfl hne1)
  clear hr hr1 hr1' h2 h3 hr4 hr4' hP1 hP2 hP3 hP4 ht1 ht2 ht3 h5 h5t hr6' hP5
  have hdef : stepP ⟨bs, bad⟩ x = if wd = [] ∨ (hw = false ∧ x.who ≠ 0) ∨ (ha = false ∧ x.a ≠ Ac.zero 0) then ⟨bs, true⟩ else
      ⟨(if ha then actP (if hw then numP ⟨bs ++ wd, bad⟩ x.who else ⟨bs ++ wd, bad⟩) x.a else (if hw then numP ⟨bs ++ wd, bad⟩ x.who else ⟨bs ++ wd, bad⟩)).bs ++ [10],
        (if ha then actP (if hw then numP ⟨bs ++ wd, bad⟩ x.who else ⟨bs ++ wd, bad⟩) x.a else (if hw then numP ⟨bs ++ wd, bad⟩ x.who else ⟨bs ++ wd, bad⟩)).bad⟩ := by
    unfold stepP
    simp only [hwd, hhw, hha]
  refine post_cut (fun a' w' => GoodC wd hw ha x ∧ PrA B b bs bad w' ∧ RepX ⟨w, w.heap.size, mB B b w⟩ ⟨[(6, 0, .v (.bool ha)), (5, 0, .v (.bool hw)), (4, 0, .v (.string (Script.B wd))), (3, 0, .ptr 0 A1 0), (0, 0, .v (.pointer (some ⟨b, 0, none⟩)))], [(A1, true, .cells (stepC x x.a.by_) 39)], 0, 0, 60, [], [], []⟩ a' w') 1 rfl ?_ fun a_ w_ hJ => ?_
  · by_cases hw0 : wd = []
    · have hB := hdef
      rw [if_pos (.inl hw0)] at hB
      subst hw0
      obtain ⟨p, v, hpb, hcl⟩ := hP6.opn
      have hA6 := hr6.all
      have h7 := (hr6.top 0 (.ptr 1 b 0) rfl (by simp [den])).see [(A1, true, .cells (stepC x x.a.by_) 39), (b, true, .cells [.v p, .v v, .v (.bool bad)] 46)] ⟨⟨hA6.1.1, hA6.1.2.1, by simp; omega⟩, ⟨hpb, fun _ => .inr hmem, by simp⟩, trivial⟩
      have hl := loc_mB (B := B) hr6.all rfl hne1
      refine seg cfg11_ok mixed PanicFree.body 1000 [true] [(19, true), (28, true)] h7.rebase (by first | trivial | exact HpRep.nil | assumption) (by kernel_rfl) fun s_ hs_ => ?_
      simp (maxSteps := 10000000) [SX.vc, SX.stop, SX.contS, SX.contB, SX.contW, SX.contR, SX.contD, SX.sxStep, SX.stepPure, SX.stepNew, SX.stepStore, SX.stepKeep, SX.guardIx, SX.evOp, SX.opd, SX.opds, SX.optOpd, SX.look, SX.putS, SX.gobs, SX.AllP, SX.leave, SX.lookC, SX.lookB, SX.lookT, SX.lookN, SX.findK, SX.evBuiltin, SX.ints, SX.foldI, SX.evBin, SX.evInt, SX.evStr, SX.evEq, SX.arith, SX.evLoad, SX.shapeUp, SX.evFieldAddr, SX.evField, SX.evIndexAddr, SX.evIndex, SX.evFill, SX.evBuild, SX.szs, SX.cellsV, SX.evNew, SX.evStore, SX.spliceL, SX.SV.cells, SX.evConv, SX.evSlice, SX.bnd, SX.evNil, SX.evUn, SX.evPick, SX.pickOpd, SX.popTo, SX.cnd, SX.env0, SX.TD.isAgg, SX.TD.isIface, SX.tails, SX.NotAgg, SX.evLookup, SX.evConvH, SX.evPtrEq, SX.isCells, SX.thaw, SX.frz, SX.fixB, SX.rootIx, SX.Froz, SX.frzStep, SX.fork, Go.Value.cells, Go.undef, cfg11, BtoList, litToList]
      refine ⟨by (unfold SX.Ob; first | trivial | omega | ((try simp only [SX.inK]); (try simp [SX.den, SX.IsU8, SX.AllP, *]); (try omega))), ?_⟩
      intro a8 w8 hr8' _
      have hr8 := h7.unbase hr8'
      refine post_retn (end0 hr8 rfl ⟨rfl, ?_, hr8.keeps⟩).1
      rw [hB]
      refine hcl w8 _ true hr8'.keeps (fun y hy => ?_) hr8.all.2.1.1
      have hy' : y = A1 ∨ y = b := by simpa [frameAt, mutB] using hy
      rcases hy' with rfl | rfl
      · exact .inr (hl _ (by simp [mutB]))
      · exact .inl rfl
    have hwa : hw = false → ha = true := by
      intro h1
      rw [← hhw] at h1
      rw [← hha]
      simp [hasWho] at h1
      simp [hasAct, h1]
    cases hw with
    | false =>
      obtain rfl := hwa rfl
      by_cases hwho : x.who = 0
      · have hng : GoodC wd false true x := by unfold GoodC; simp [hw0, hwho]
        refine seg cfg11_ok mixed PanicFree.body 1000 [false] [(19, false), (22, true), (28, false), (31, false)] hr6.rebase (by first | trivial | exact HpRep.nil | assumption) (by kernel_rfl) fun s_ hs_ => ?_
        simp (maxSteps := 10000000) [SX.vc, SX.stop, SX.contS, SX.contB, SX.contW, SX.contR, SX.contD, SX.sxStep, SX.stepPure, SX.stepNew, SX.stepStore, SX.stepKeep, SX.guardIx, SX.evOp, SX.opd, SX.opds, SX.optOpd, SX.look, SX.putS, SX.gobs, SX.AllP, SX.leave, SX.lookC, SX.lookB, SX.lookT, SX.lookN, SX.findK, SX.evBuiltin, SX.ints, SX.foldI, SX.evBin, SX.evInt, SX.evStr, SX.evEq, SX.arith, SX.evLoad, SX.shapeUp, SX.evFieldAddr, SX.evField, SX.evIndexAddr, SX.evIndex, SX.evFill, SX.evBuild, SX.szs, SX.cellsV, SX.evNew, SX.evStore, SX.spliceL, SX.SV.cells, SX.evConv, SX.evSlice, SX.bnd, SX.evNil, SX.evUn, SX.evPick, SX.pickOpd, SX.popTo, SX.cnd, SX.env0, SX.TD.isAgg, SX.TD.isIface, SX.tails, SX.NotAgg, SX.evLookup, SX.evConvH, SX.evPtrEq, SX.isCells, SX.thaw, SX.frz, SX.fixB, SX.rootIx, SX.Froz, SX.frzStep, SX.fork, Go.Value.cells, Go.undef, cfg11, BtoList, litToList, hw0, hwho]
        refine ⟨by (unfold SX.Ob; first | trivial | omega | ((try simp only [SX.inK]); (try simp [SX.den, SX.IsU8, SX.AllP, *]); (try omega))), ?_⟩
        intro a8 w8 hr8' _
        have hr8 := hr6.unbase hr8'
        have hA8 := hr8.all
        exact post_inv ⟨hng, hP6.keep hr8'.keeps (loc_mB hr6.all rfl hne1), hr8.re (by simp [envTo, SX.look, den]) ⟨⟨hA8.1.1, hA8.1.2.1, by simp⟩, trivial⟩ rfl rfl⟩
      · have hB := hdef
        rw [if_pos (.inr (.inl ⟨rfl, hwho⟩))] at hB
        obtain ⟨p, v, hpb, hcl⟩ := hP6.opn
        have hA6 := hr6.all
        have h7 := (hr6.top 0 (.ptr 1 b 0) rfl (by simp [den])).see [(A1, true, .cells (stepC x x.a.by_) 39), (b, true, .cells [.v p, .v v, .v (.bool bad)] 46)] ⟨⟨hA6.1.1, hA6.1.2.1, by simp; omega⟩, ⟨hpb, fun _ => .inr hmem, by simp⟩, trivial⟩
        have hl := loc_mB (B := B) hr6.all rfl hne1
        refine seg cfg11_ok mixed PanicFree.body 1000 [true] [(19, false), (22, true), (28, true)] h7.rebase (by first | trivial | exact HpRep.nil | assumption) (by kernel_rfl) fun s_ hs_ => ?_
        simp (maxSteps := 10000000) [SX.vc, SX.stop, SX.contS, SX.contB, SX.contW, SX.contR, SX.contD, SX.sxStep, SX.stepPure, SX.stepNew, SX.stepStore, SX.stepKeep, SX.guardIx, SX.evOp, SX.opd, SX.opds, SX.optOpd, SX.look, SX.putS, SX.gobs, SX.AllP, SX.leave, SX.lookC, SX.lookB, SX.lookT, SX.lookN, SX.findK, SX.evBuiltin, SX.ints, SX.foldI, SX.evBin, SX.evInt, SX.evStr, SX.evEq, SX.arith, SX.evLoad, SX.shapeUp, SX.evFieldAddr, SX.evField, SX.evIndexAddr, SX.evIndex, SX.evFill, SX.evBuild, SX.szs, SX.cellsV, SX.evNew, SX.evStore, SX.spliceL, SX.SV.cells, SX.evConv, SX.evSlice, SX.bnd, SX.evNil, SX.evUn, SX.evPick, SX.pickOpd, SX.popTo, SX.cnd, SX.env0, SX.TD.isAgg, SX.TD.isIface, SX.tails, SX.NotAgg, SX.evLookup, SX.evConvH, SX.evPtrEq, SX.isCells, SX.thaw, SX.frz, SX.fixB, SX.rootIx, SX.Froz, SX.frzStep, SX.fork, Go.Value.cells, Go.undef, cfg11, BtoList, litToList, hw0, hwho]
        refine ⟨by (unfold SX.Ob; first | trivial | omega | ((try simp only [SX.inK]); (try simp [SX.den, SX.IsU8, SX.AllP, *]); (try omega))), ?_⟩
        intro a8 w8 hr8' _
        have hr8 := h7.unbase hr8'
        refine post_retn (end0 hr8 rfl ⟨rfl, ?_, hr8.keeps⟩).1
        rw [hB]
        refine hcl w8 _ true hr8'.keeps (fun y hy => ?_) hr8.all.2.1.1
        have hy' : y = A1 ∨ y = b := by simpa [frameAt, mutB] using hy
        rcases hy' with rfl | rfl
        · exact .inr (hl _ (by simp [mutB]))
        · exact .inl rfl
    | true =>
      cases ha with
      | true =>
        have hng : GoodC wd true true x := by unfold GoodC; simp [hw0]
        refine seg cfg11_ok mixed PanicFree.body 1000 [false] [(19, false), (22, false), (28, false), (31, false)] hr6.rebase (by first | trivial | exact HpRep.nil | assumption) (by kernel_rfl) fun s_ hs_ => ?_
        simp (maxSteps := 10000000) [SX.vc, SX.stop, SX.contS, SX.contB, SX.contW, SX.contR, SX.contD, SX.sxStep, SX.stepPure, SX.stepNew, SX.stepStore, SX.stepKeep, SX.guardIx, SX.evOp, SX.opd, SX.opds, SX.optOpd, SX.look, SX.putS, SX.gobs, SX.AllP, SX.leave, SX.lookC, SX.lookB, SX.lookT, SX.lookN, SX.findK, SX.evBuiltin, SX.ints, SX.foldI, SX.evBin, SX.evInt, SX.evStr, SX.evEq, SX.arith, SX.evLoad, SX.shapeUp, SX.evFieldAddr, SX.evField, SX.evIndexAddr, SX.evIndex, SX.evFill, SX.evBuild, SX.szs, SX.cellsV, SX.evNew, SX.evStore, SX.spliceL, SX.SV.cells, SX.evConv, SX.evSlice, SX.bnd, SX.evNil, SX.evUn, SX.evPick, SX.pickOpd, SX.popTo, SX.cnd, SX.env0, SX.TD.isAgg, SX.TD.isIface, SX.tails, SX.NotAgg, SX.evLookup, SX.evConvH, SX.evPtrEq, SX.isCells, SX.thaw, SX.frz, SX.fixB, SX.rootIx, SX.Froz, SX.frzStep, SX.fork, Go.Value.cells, Go.undef, cfg11, BtoList, litToList, hw0]
        refine ⟨by (unfold SX.Ob; first | trivial | omega | ((try simp only [SX.inK]); (try simp [SX.den, SX.IsU8, SX.AllP, *]); (try omega))), ?_⟩
        intro a8 w8 hr8' _
        have hr8 := hr6.unbase hr8'
        have hA8 := hr8.all
        exact post_inv ⟨hng, hP6.keep hr8'.keeps (loc_mB hr6.all rfl hne1), hr8.re (by simp [envTo, SX.look, den]) ⟨⟨hA8.1.1, hA8.1.2.1, by simp⟩, trivial⟩ rfl rfl⟩
      | false =>
        by_cases hza : x.a = Ac.zero 0
        · have hng : GoodC wd true false x := by unfold GoodC; simp [hw0, hza]
          refine seg cfg11_ok mixed PanicFree.body 1000 [] [(19, false), (22, false), (28, false), (31, true)] hr6.rebase (by first | trivial | exact HpRep.nil | assumption) (by kernel_rfl) fun s_ hs_ => ?_
          simp (maxSteps := 10000000) [SX.vc, SX.stop, SX.contS, SX.contB, SX.contW, SX.contR, SX.contD, SX.sxStep, SX.stepPure, SX.stepNew, SX.stepStore, SX.stepKeep, SX.guardIx, SX.evOp, SX.opd, SX.opds, SX.optOpd, SX.look, SX.putS, SX.gobs, SX.AllP, SX.leave, SX.lookC, SX.lookB, SX.lookT, SX.lookN, SX.findK, SX.evBuiltin, SX.ints, SX.foldI, SX.evBin, SX.evInt, SX.evStr, SX.evEq, SX.arith, SX.evLoad, SX.shapeUp, SX.evFieldAddr, SX.evField, SX.evIndexAddr, SX.evIndex, SX.evFill, SX.evBuild, SX.szs, SX.cellsV, SX.evNew, SX.evStore, SX.spliceL, SX.SV.cells, SX.evConv, SX.evSlice, SX.bnd, SX.evNil, SX.evUn, SX.evPick, SX.pickOpd, SX.popTo, SX.cnd, SX.env0, SX.TD.isAgg, SX.TD.isIface, SX.tails, SX.NotAgg, SX.evLookup, SX.evConvH, SX.evPtrEq, SX.isCells, SX.thaw, SX.frz, SX.fixB, SX.rootIx, SX.Froz, SX.frzStep, SX.fork, Go.Value.cells, Go.undef, cfg11, BtoList, litToList, hw0]
          refine ⟨by (unfold SX.Ob; first | trivial | omega | ((try simp only [SX.inK]); (try simp [SX.den, SX.IsU8, SX.AllP, *]); (try omega))), ?_⟩
          intro a7 w7 hr7' _
          refine post_eqP (C := cfg11) cfg11_ok (ok := fun t => t == 37) ok37 hr7' rfl rfl rfl (by kernel_rfl) (b := decide (x.a = Ac.zero 0)) (eqAc x.a (Ac.zero 0)) (by first | exact wanted_none rfl | exact wanted_zero (hr7'.env.same rfl rfl rfl rfl) rfl (by simp)) rfl (by simp) rfl fun a_ hrq' => ?_
          simp only [SX.eqR] at hrq'
          have hdz : (!decide (x.a = Ac.zero 0)) = false := by simp [hza]
          have hrq := hrq'.top 35 (.v (.bool false)) rfl (by rw [← hdz])
          refine seg cfg11_ok mixed PanicFree.body 1000 [false] [(19, false), (22, false), (28, false), (31, true)] hrq (by first | trivial | exact HpRep.nil | assumption) (by kernel_rfl) fun s_ hs_ => ?_
          simp (maxSteps := 10000000) [SX.vc, SX.stop, SX.contS, SX.contB, SX.contW, SX.contR, SX.contD, SX.sxStep, SX.stepPure, SX.stepNew, SX.stepStore, SX.stepKeep, SX.guardIx, SX.evOp, SX.opd, SX.opds, SX.optOpd, SX.look, SX.putS, SX.gobs, SX.AllP, SX.leave, SX.lookC, SX.lookB, SX.lookT, SX.lookN, SX.findK, SX.evBuiltin, SX.ints, SX.foldI, SX.evBin, SX.evInt, SX.evStr, SX.evEq, SX.arith, SX.evLoad, SX.shapeUp, SX.evFieldAddr, SX.evField, SX.evIndexAddr, SX.evIndex, SX.evFill, SX.evBuild, SX.szs, SX.cellsV, SX.evNew, SX.evStore, SX.spliceL, SX.SV.cells, SX.evConv, SX.evSlice, SX.bnd, SX.evNil, SX.evUn, SX.evPick, SX.pickOpd, SX.popTo, SX.cnd, SX.env0, SX.TD.isAgg, SX.TD.isIface, SX.tails, SX.NotAgg, SX.evLookup, SX.evConvH, SX.evPtrEq, SX.isCells, SX.thaw, SX.frz, SX.fixB, SX.rootIx, SX.Froz, SX.frzStep, SX.fork, Go.Value.cells, Go.undef, cfg11]
          refine ⟨by (unfold SX.Ob; first | trivial | omega | ((try simp only [SX.inK]); (try simp [SX.den, SX.IsU8, SX.AllP, *]); (try omega))), ?_⟩
          intro a8 w8 hr8' _
          have hr8 := hr6.unbase hr8'
          have hA8 := hr8.all
          exact post_inv ⟨hng, hP6.keep hr8'.keeps (loc_mB hr6.all rfl hne1), hr8.re (by simp [envTo, SX.look, den]) ⟨⟨hA8.1.1, hA8.1.2.1, by simp⟩, trivial⟩ rfl rfl⟩
        · have hB := hdef
          rw [if_pos (.inr (.inr ⟨rfl, hza⟩))] at hB
          obtain ⟨p, v, hpb, hcl⟩ := hP6.opn
          have hA6 := hr6.all
          have h7 := (hr6.top 0 (.ptr 1 b 0) rfl (by simp [den])).see [(A1, true, .cells (stepC x x.a.by_) 39), (b, true, .cells [.v p, .v v, .v (.bool bad)] 46)] ⟨⟨hA6.1.1, hA6.1.2.1, by simp; omega⟩, ⟨hpb, fun _ => .inr hmem, by simp⟩, trivial⟩
          have hl := loc_mB (B := B) hr6.all rfl hne1
          refine seg cfg11_ok mixed PanicFree.body 1000 [] [(19, false), (22, false), (28, false), (31, true)] h7.rebase (by first | trivial | exact HpRep.nil | assumption) (by kernel_rfl) fun s_ hs_ => ?_
          simp (maxSteps := 10000000) [SX.vc, SX.stop, SX.contS, SX.contB, SX.contW, SX.contR, SX.contD, SX.sxStep, SX.stepPure, SX.stepNew, SX.stepStore, SX.stepKeep, SX.guardIx, SX.evOp, SX.opd, SX.opds, SX.optOpd, SX.look, SX.putS, SX.gobs, SX.AllP, SX.leave, SX.lookC, SX.lookB, SX.lookT, SX.lookN, SX.findK, SX.evBuiltin, SX.ints, SX.foldI, SX.evBin, SX.evInt, SX.evStr, SX.evEq, SX.arith, SX.evLoad, SX.shapeUp, SX.evFieldAddr, SX.evField, SX.evIndexAddr, SX.evIndex, SX.evFill, SX.evBuild, SX.szs, SX.cellsV, SX.evNew, SX.evStore, SX.spliceL, SX.SV.cells, SX.evConv, SX.evSlice, SX.bnd, SX.evNil, SX.evUn, SX.evPick, SX.pickOpd, SX.popTo, SX.cnd, SX.env0, SX.TD.isAgg, SX.TD.isIface, SX.tails, SX.NotAgg, SX.evLookup, SX.evConvH, SX.evPtrEq, SX.isCells, SX.thaw, SX.frz, SX.fixB, SX.rootIx, SX.Froz, SX.frzStep, SX.fork, Go.Value.cells, Go.undef, cfg11, BtoList, litToList, hw0]
          refine ⟨by (unfold SX.Ob; first | trivial | omega | ((try simp only [SX.inK]); (try simp [SX.den, SX.IsU8, SX.AllP, *]); (try omega))), ?_⟩
          intro a7 w7 hr7' _
          refine post_eqP (C := cfg11) cfg11_ok (ok := fun t => t == 37) ok37 hr7' rfl rfl rfl (by kernel_rfl) (b := decide (x.a = Ac.zero 0)) (eqAc x.a (Ac.zero 0)) (by first | exact wanted_none rfl | exact wanted_zero (hr7'.env.same rfl rfl rfl rfl) rfl (by simp)) rfl (by simp) rfl fun a_ hrq' => ?_
          simp only [SX.eqR] at hrq'
          have hdz : (!decide (x.a = Ac.zero 0)) = true := by simp [hza]
          have hrq := hrq'.top 35 (.v (.bool true)) rfl (by rw [← hdz])
          refine seg cfg11_ok mixed PanicFree.body 1000 [true] [(19, false), (22, false), (28, false), (31, true)] hrq (by first | trivial | exact HpRep.nil | assumption) (by kernel_rfl) fun s_ hs_ => ?_
          simp (maxSteps := 10000000) [SX.vc, SX.stop, SX.contS, SX.contB, SX.contW, SX.contR, SX.contD, SX.sxStep, SX.stepPure, SX.stepNew, SX.stepStore, SX.stepKeep, SX.guardIx, SX.evOp, SX.opd, SX.opds, SX.optOpd, SX.look, SX.putS, SX.gobs, SX.AllP, SX.leave, SX.lookC, SX.lookB, SX.lookT, SX.lookN, SX.findK, SX.evBuiltin, SX.ints, SX.foldI, SX.evBin, SX.evInt, SX.evStr, SX.evEq, SX.arith, SX.evLoad, SX.shapeUp, SX.evFieldAddr, SX.evField, SX.evIndexAddr, SX.evIndex, SX.evFill, SX.evBuild, SX.szs, SX.cellsV, SX.evNew, SX.evStore, SX.spliceL, SX.SV.cells, SX.evConv, SX.evSlice, SX.bnd, SX.evNil, SX.evUn, SX.evPick, SX.pickOpd, SX.popTo, SX.cnd, SX.env0, SX.TD.isAgg, SX.TD.isIface, SX.tails, SX.NotAgg, SX.evLookup, SX.evConvH, SX.evPtrEq, SX.isCells, SX.thaw, SX.frz, SX.fixB, SX.rootIx, SX.Froz, SX.frzStep, SX.fork, Go.Value.cells, Go.undef, cfg11]
          refine ⟨by (unfold SX.Ob; first | trivial | omega | ((try simp only [SX.inK]); (try simp [SX.den, SX.IsU8, SX.AllP, *]); (try omega))), ?_⟩
          intro a8 w8 hr8' _
          have hr8 := h7.unbase hr8'
          refine post_retn (end0 hr8 rfl ⟨rfl, ?_, hr8.keeps⟩).1
          rw [hB]
          refine hcl w8 _ true hr8'.keeps (fun y hy => ?_) hr8.all.2.1.1
          have hy' : y = A1 ∨ y = b := by simpa [frameAt, mutB] using hy
          rcases hy' with rfl | rfl
          · exact .inr (hl _ (by simp [mutB]))
          · exact .inl rfl
  obtain ⟨hng, hP8, hr8⟩ := hJ
  unfold GoodC at hng
  rw [if_neg hng] at hdef
  have hw0 : wd ≠ [] := fun h => hng (.inl h)
  have hwa : hw = false → ha = true := by
    intro h1
    rw [← hhw] at h1
    rw [← hha]
    simp [hasWho] at h1
    simp [hasAct, h1]
  clear hr6 hP6 hng
  obtain ⟨hgood, hdummy⟩ : stepP ⟨bs, bad⟩ x = _ ∧ True := ⟨hdef, trivial⟩
  clear hdef
  rcases (show (hw = false ∧ ha = true) ∨ (hw = true ∧ ha = true) ∨ (hw = true ∧ ha = false) by cases hw <;> cases ha <;> simp at hwa ⊢) with ⟨rfl, rfl⟩ | ⟨rfl, rfl⟩ | ⟨rfl, rfl⟩
  · -- who False, act True
    have h9 := hr8.top 0 (.ptr 9 b 0) rfl (by simp [den])
    refine seg cfg11_ok mixed PanicFree.body 1000 [] [] h9.rebase (by first | trivial | exact HpRep.nil | assumption) (by kernel_rfl) fun s_ hs_ => ?_
    simp (maxSteps := 10000000) [SX.vc, SX.stop, SX.contS, SX.contB, SX.contW, SX.contR, SX.contD, SX.sxStep, SX.stepPure, SX.stepNew, SX.stepStore, SX.stepKeep, SX.guardIx, SX.evOp, SX.opd, SX.opds, SX.optOpd, SX.look, SX.putS, SX.gobs, SX.AllP, SX.leave, SX.lookC, SX.lookB, SX.lookT, SX.lookN, SX.findK, SX.evBuiltin, SX.ints, SX.foldI, SX.evBin, SX.evInt, SX.evStr, SX.evEq, SX.arith, SX.evLoad, SX.shapeUp, SX.evFieldAddr, SX.evField, SX.evIndexAddr, SX.evIndex, SX.evFill, SX.evBuild, SX.szs, SX.cellsV, SX.evNew, SX.evStore, SX.spliceL, SX.SV.cells, SX.evConv, SX.evSlice, SX.bnd, SX.evNil, SX.evUn, SX.evPick, SX.pickOpd, SX.popTo, SX.cnd, SX.env0, SX.TD.isAgg, SX.TD.isIface, SX.tails, SX.NotAgg, SX.evLookup, SX.evConvH, SX.evPtrEq, SX.isCells, SX.thaw, SX.frz, SX.fixB, SX.rootIx, SX.Froz, SX.frzStep, SX.fork, Go.Value.cells, Go.undef, cfg11]
    refine ⟨by (unfold SX.Ob; first | trivial | omega | ((try simp only [SX.inK]); (try simp [SX.den, SX.IsU8, SX.AllP, *]); (try omega))), ?_⟩
    intro a10 w10 hr10' _
    have hr10 := h9.unbase hr10'
    have hP10 := hP8.keep hr10'.keeps (loc_mB h9.all rfl hne1)
    have hws := writeStringA wd hP10 hw0 (by omega)
    obtain ⟨lw, hlw⟩ : ∃ lw : Nat, wd.length = lw := ⟨_, rfl⟩
    rw [hlw] at hws
    refine post_call 19 [.ptr 9 b 0, .v (.string (Script.B wd))] hr10 (wanted_none rfl) rfl (callable 19 Tryd.func19) (hws) ?_
    rintro e11 w11 ⟨rfl, hP11, hk11⟩
    refine ⟨_, rfl, ?_⟩
    have h11 := hr10.retK hk11 (mB_step hr10.keeps) 45 (.tu [.v (.int .i64 lw), .v .nilIface]) rfl _ (HpAll.to hk11 hr10.all (loc_all hr10.all rfl hne1)) (by simp) rfl
    refine seg cfg11_ok mixed PanicFree.body 1000 [false, true] [] h11.rebase (by first | trivial | exact HpRep.nil | assumption) (by kernel_rfl) fun s_ hs_ => ?_
    simp (maxSteps := 10000000) [SX.vc, SX.stop, SX.contS, SX.contB, SX.contW, SX.contR, SX.contD, SX.sxStep, SX.stepPure, SX.stepNew, SX.stepStore, SX.stepKeep, SX.guardIx, SX.evOp, SX.opd, SX.opds, SX.optOpd, SX.look, SX.putS, SX.gobs, SX.AllP, SX.leave, SX.lookC, SX.lookB, SX.lookT, SX.lookN, SX.findK, SX.evBuiltin, SX.ints, SX.foldI, SX.evBin, SX.evInt, SX.evStr, SX.evEq, SX.arith, SX.evLoad, SX.shapeUp, SX.evFieldAddr, SX.evField, SX.evIndexAddr, SX.evIndex, SX.evFill, SX.evBuild, SX.szs, SX.cellsV, SX.evNew, SX.evStore, SX.spliceL, SX.SV.cells, SX.evConv, SX.evSlice, SX.bnd, SX.evNil, SX.evUn, SX.evPick, SX.pickOpd, SX.popTo, SX.cnd, SX.env0, SX.TD.isAgg, SX.TD.isIface, SX.tails, SX.NotAgg, SX.evLookup, SX.evConvH, SX.evPtrEq, SX.isCells, SX.thaw, SX.frz, SX.fixB, SX.rootIx, SX.Froz, SX.frzStep, SX.fork, Go.Value.cells, Go.undef, cfg11]
    refine ⟨by (unfold SX.Ob; first | trivial | omega | ((try simp only [SX.inK]); (try simp [SX.den, SX.IsU8, SX.AllP, *]); (try omega))), ?_⟩
    intro a14 w14 hr14' _
    have hr14 := h11.unbase hr14'
    have hP14 := hP11.keep hr14'.keeps (loc_mB h11.all rfl hne1)
    refine post_call 21 [.ptr 9 b 0, .ag (actC x.a x.a.by_)] hr14 (wanted_none rfl) rfl (callable 21 Tryd.func21) (actP_ok w14 B b _ _ x.a hP14 (by (try simp only [List.length_append]); omega) hby) ?_
    rintro e15 w15 ⟨rfl, hP15, hk15⟩
    refine ⟨_, rfl, ?_⟩
    have h15 := hr14.retK hk15 (mB_step hr14.keeps) 55 (.tu []) rfl _ (HpAll.to hk15 hr14.all (loc_all hr14.all rfl hne1)) (by simp) rfl
    have hl15 := actP_len (⟨bs ++ wd, bad⟩) x.a
    (try simp only [List.length_append] at hl15)
    refine seg cfg11_ok mixed PanicFree.body 1000 [] [] h15.rebase (by first | trivial | exact HpRep.nil | assumption) (by kernel_rfl) fun s_ hs_ => ?_
    simp (maxSteps := 10000000) [SX.vc, SX.stop, SX.contS, SX.contB, SX.contW, SX.contR, SX.contD, SX.sxStep, SX.stepPure, SX.stepNew, SX.stepStore, SX.stepKeep, SX.guardIx, SX.evOp, SX.opd, SX.opds, SX.optOpd, SX.look, SX.putS, SX.gobs, SX.AllP, SX.leave, SX.lookC, SX.lookB, SX.lookT, SX.lookN, SX.findK, SX.evBuiltin, SX.ints, SX.foldI, SX.evBin, SX.evInt, SX.evStr, SX.evEq, SX.arith, SX.evLoad, SX.shapeUp, SX.evFieldAddr, SX.evField, SX.evIndexAddr, SX.evIndex, SX.evFill, SX.evBuild, SX.szs, SX.cellsV, SX.evNew, SX.evStore, SX.spliceL, SX.SV.cells, SX.evConv, SX.evSlice, SX.bnd, SX.evNil, SX.evUn, SX.evPick, SX.pickOpd, SX.popTo, SX.cnd, SX.env0, SX.TD.isAgg, SX.TD.isIface, SX.tails, SX.NotAgg, SX.evLookup, SX.evConvH, SX.evPtrEq, SX.isCells, SX.thaw, SX.frz, SX.fixB, SX.rootIx, SX.Froz, SX.frzStep, SX.fork, Go.Value.cells, Go.undef, cfg11]
    refine ⟨by (unfold SX.Ob; first | trivial | omega | ((try simp only [SX.inK]); (try simp [SX.den, SX.IsU8, SX.AllP, *]); (try omega))), ?_⟩
    intro a16 w16 hr16' _
    have hr16 := h15.unbase hr16'
    have hP16 := hP15.keep hr16'.keeps (loc_mB h15.all rfl hne1)
    refine post_call 22 [.ptr 9 b 0, .v (.int .u8 10)] hr16 (wanted_none rfl) rfl (callable 22 Tryd.func22) (writeByteA 10 hP16 (by first | (show (actP (numP ⟨bs ++ wd, bad⟩ x.who) x.a).bs.length + 1 ≤ 140737488355328; omega) | ((try simp only [List.length_append]); omega))) ?_
    rintro e17 w17 ⟨rfl, hP17, hk17⟩
    refine ⟨_, rfl, ?_⟩
    have h17 := hr16.retK hk17 (mB_step hr16.keeps) 59 (.v .nilIface) rfl _ (HpAll.to hk17 hr16.all (loc_all hr16.all rfl hne1)) (by simp) rfl
    refine seg cfg11_ok mixed PanicFree.body 1000 [] [] h17.rebase (by first | trivial | exact HpRep.nil | assumption) (by kernel_rfl) fun s_ hs_ => ?_
    simp (maxSteps := 10000000) [SX.vc, SX.stop, SX.contS, SX.contB, SX.contW, SX.contR, SX.contD, SX.sxStep, SX.stepPure, SX.stepNew, SX.stepStore, SX.stepKeep, SX.guardIx, SX.evOp, SX.opd, SX.opds, SX.optOpd, SX.look, SX.putS, SX.gobs, SX.AllP, SX.leave, SX.lookC, SX.lookB, SX.lookT, SX.lookN, SX.findK, SX.evBuiltin, SX.ints, SX.foldI, SX.evBin, SX.evInt, SX.evStr, SX.evEq, SX.arith, SX.evLoad, SX.shapeUp, SX.evFieldAddr, SX.evField, SX.evIndexAddr, SX.evIndex, SX.evFill, SX.evBuild, SX.szs, SX.cellsV, SX.evNew, SX.evStore, SX.spliceL, SX.SV.cells, SX.evConv, SX.evSlice, SX.bnd, SX.evNil, SX.evUn, SX.evPick, SX.pickOpd, SX.popTo, SX.cnd, SX.env0, SX.TD.isAgg, SX.TD.isIface, SX.tails, SX.NotAgg, SX.evLookup, SX.evConvH, SX.evPtrEq, SX.isCells, SX.thaw, SX.frz, SX.fixB, SX.rootIx, SX.Froz, SX.frzStep, SX.fork, Go.Value.cells, Go.undef, cfg11]
    refine ⟨by (unfold SX.Ob; first | trivial | omega | ((try simp only [SX.inK]); (try simp [SX.den, SX.IsU8, SX.AllP, *]); (try omega))), ?_⟩
    intro a18 w18 hr18' _
    have hr18 := h17.unbase hr18'
    refine post_nil (end0 hr18 rfl ⟨rfl, ?_, hr18.keeps⟩).2
    rw [hgood]
    exact hP17.keep hr18'.keeps (loc_mB h17.all rfl hne1)
  · -- who True, act True
    have h9 := hr8.top 0 (.ptr 9 b 0) rfl (by simp [den])
    refine seg cfg11_ok mixed PanicFree.body 1000 [] [] h9.rebase (by first | trivial | exact HpRep.nil | assumption) (by kernel_rfl) fun s_ hs_ => ?_
    simp (maxSteps := 10000000) [SX.vc, SX.stop, SX.contS, SX.contB, SX.contW, SX.contR, SX.contD, SX.sxStep, SX.stepPure, SX.stepNew, SX.stepStore, SX.stepKeep, SX.guardIx, SX.evOp, SX.opd, SX.opds, SX.optOpd, SX.look, SX.putS, SX.gobs, SX.AllP, SX.leave, SX.lookC, SX.lookB, SX.lookT, SX.lookN, SX.findK, SX.evBuiltin, SX.ints, SX.foldI, SX.evBin, SX.evInt, SX.evStr, SX.evEq, SX.arith, SX.evLoad, SX.shapeUp, SX.evFieldAddr, SX.evField, SX.evIndexAddr, SX.evIndex, SX.evFill, SX.evBuild, SX.szs, SX.cellsV, SX.evNew, SX.evStore, SX.spliceL, SX.SV.cells, SX.evConv, SX.evSlice, SX.bnd, SX.evNil, SX.evUn, SX.evPick, SX.pickOpd, SX.popTo, SX.cnd, SX.env0, SX.TD.isAgg, SX.TD.isIface, SX.tails, SX.NotAgg, SX.evLookup, SX.evConvH, SX.evPtrEq, SX.isCells, SX.thaw, SX.frz, SX.fixB, SX.rootIx, SX.Froz, SX.frzStep, SX.fork, Go.Value.cells, Go.undef, cfg11]
    refine ⟨by (unfold SX.Ob; first | trivial | omega | ((try simp only [SX.inK]); (try simp [SX.den, SX.IsU8, SX.AllP, *]); (try omega))), ?_⟩
    intro a10 w10 hr10' _
    have hr10 := h9.unbase hr10'
    have hP10 := hP8.keep hr10'.keeps (loc_mB h9.all rfl hne1)
    have hws := writeStringA wd hP10 hw0 (by omega)
    obtain ⟨lw, hlw⟩ : ∃ lw : Nat, wd.length = lw := ⟨_, rfl⟩
    rw [hlw] at hws
    refine post_call 19 [.ptr 9 b 0, .v (.string (Script.B wd))] hr10 (wanted_none rfl) rfl (callable 19 Tryd.func19) (hws) ?_
    rintro e11 w11 ⟨rfl, hP11, hk11⟩
    refine ⟨_, rfl, ?_⟩
    have h11 := hr10.retK hk11 (mB_step hr10.keeps) 45 (.tu [.v (.int .i64 lw), .v .nilIface]) rfl _ (HpAll.to hk11 hr10.all (loc_all hr10.all rfl hne1)) (by simp) rfl
    refine seg cfg11_ok mixed PanicFree.body 1000 [true] [] h11.rebase (by first | trivial | exact HpRep.nil | assumption) (by kernel_rfl) fun s_ hs_ => ?_
    simp (maxSteps := 10000000) [SX.vc, SX.stop, SX.contS, SX.contB, SX.contW, SX.contR, SX.contD, SX.sxStep, SX.stepPure, SX.stepNew, SX.stepStore, SX.stepKeep, SX.guardIx, SX.evOp, SX.opd, SX.opds, SX.optOpd, SX.look, SX.putS, SX.gobs, SX.AllP, SX.leave, SX.lookC, SX.lookB, SX.lookT, SX.lookN, SX.findK, SX.evBuiltin, SX.ints, SX.foldI, SX.evBin, SX.evInt, SX.evStr, SX.evEq, SX.arith, SX.evLoad, SX.shapeUp, SX.evFieldAddr, SX.evField, SX.evIndexAddr, SX.evIndex, SX.evFill, SX.evBuild, SX.szs, SX.cellsV, SX.evNew, SX.evStore, SX.spliceL, SX.SV.cells, SX.evConv, SX.evSlice, SX.bnd, SX.evNil, SX.evUn, SX.evPick, SX.pickOpd, SX.popTo, SX.cnd, SX.env0, SX.TD.isAgg, SX.TD.isIface, SX.tails, SX.NotAgg, SX.evLookup, SX.evConvH, SX.evPtrEq, SX.isCells, SX.thaw, SX.frz, SX.fixB, SX.rootIx, SX.Froz, SX.frzStep, SX.fork, Go.Value.cells, Go.undef, cfg11]
    refine ⟨by (unfold SX.Ob; first | trivial | omega | ((try simp only [SX.inK]); (try simp [SX.den, SX.IsU8, SX.AllP, *]); (try omega))), ?_⟩
    intro a12 w12 hr12' _
    have hr12 := h11.unbase hr12'
    have hP12 := hP11.keep hr12'.keeps (loc_mB h11.all rfl hne1)
    refine post_call 20 [.ptr 9 b 0, .v (.int .i64 x.who)] hr12 (wanted_none rfl) rfl (callable 20 Tryd.func20) (numberP_ok w12 B b _ _ x.who hP12 (by simp; omega)) ?_
    rintro e13 w13 ⟨rfl, hP13, hk13⟩
    refine ⟨_, rfl, ?_⟩
    have h13 := hr12.retK hk13 (mB_step hr12.keeps) 50 (.tu []) rfl _ (HpAll.to hk13 hr12.all (loc_all hr12.all rfl hne1)) (by simp) rfl
    have hl13 := numP_len ⟨bs ++ wd, bad⟩ x.who
    simp only [List.length_append] at hl13
    refine seg cfg11_ok mixed PanicFree.body 1000 [true] [] h13.rebase (by first | trivial | exact HpRep.nil | assumption) (by kernel_rfl) fun s_ hs_ => ?_
    simp (maxSteps := 10000000) [SX.vc, SX.stop, SX.contS, SX.contB, SX.contW, SX.contR, SX.contD, SX.sxStep, SX.stepPure, SX.stepNew, SX.stepStore, SX.stepKeep, SX.guardIx, SX.evOp, SX.opd, SX.opds, SX.optOpd, SX.look, SX.putS, SX.gobs, SX.AllP, SX.leave, SX.lookC, SX.lookB, SX.lookT, SX.lookN, SX.findK, SX.evBuiltin, SX.ints, SX.foldI, SX.evBin, SX.evInt, SX.evStr, SX.evEq, SX.arith, SX.evLoad, SX.shapeUp, SX.evFieldAddr, SX.evField, SX.evIndexAddr, SX.evIndex, SX.evFill, SX.evBuild, SX.szs, SX.cellsV, SX.evNew, SX.evStore, SX.spliceL, SX.SV.cells, SX.evConv, SX.evSlice, SX.bnd, SX.evNil, SX.evUn, SX.evPick, SX.pickOpd, SX.popTo, SX.cnd, SX.env0, SX.TD.isAgg, SX.TD.isIface, SX.tails, SX.NotAgg, SX.evLookup, SX.evConvH, SX.evPtrEq, SX.isCells, SX.thaw, SX.frz, SX.fixB, SX.rootIx, SX.Froz, SX.frzStep, SX.fork, Go.Value.cells, Go.undef, cfg11]
    refine ⟨by (unfold SX.Ob; first | trivial | omega | ((try simp only [SX.inK]); (try simp [SX.den, SX.IsU8, SX.AllP, *]); (try omega))), ?_⟩
    intro a14 w14 hr14' _
    have hr14 := h13.unbase hr14'
    have hP14 := hP13.keep hr14'.keeps (loc_mB h13.all rfl hne1)
    refine post_call 21 [.ptr 9 b 0, .ag (actC x.a x.a.by_)] hr14 (wanted_none rfl) rfl (callable 21 Tryd.func21) (actP_ok w14 B b _ _ x.a hP14 (by (try simp only [List.length_append]); omega) hby) ?_
    rintro e15 w15 ⟨rfl, hP15, hk15⟩
    refine ⟨_, rfl, ?_⟩
    have h15 := hr14.retK hk15 (mB_step hr14.keeps) 55 (.tu []) rfl _ (HpAll.to hk15 hr14.all (loc_all hr14.all rfl hne1)) (by simp) rfl
    have hl15 := actP_len (numP ⟨bs ++ wd, bad⟩ x.who) x.a
    (try simp only [List.length_append] at hl15)
    refine seg cfg11_ok mixed PanicFree.body 1000 [] [] h15.rebase (by first | trivial | exact HpRep.nil | assumption) (by kernel_rfl) fun s_ hs_ => ?_
    simp (maxSteps := 10000000) [SX.vc, SX.stop, SX.contS, SX.contB, SX.contW, SX.contR, SX.contD, SX.sxStep, SX.stepPure, SX.stepNew, SX.stepStore, SX.stepKeep, SX.guardIx, SX.evOp, SX.opd, SX.opds, SX.optOpd, SX.look, SX.putS, SX.gobs, SX.AllP, SX.leave, SX.lookC, SX.lookB, SX.lookT, SX.lookN, SX.findK, SX.evBuiltin, SX.ints, SX.foldI, SX.evBin, SX.evInt, SX.evStr, SX.evEq, SX.arith, SX.evLoad, SX.shapeUp, SX.evFieldAddr, SX.evField, SX.evIndexAddr, SX.evIndex, SX.evFill, SX.evBuild, SX.szs, SX.cellsV, SX.evNew, SX.evStore, SX.spliceL, SX.SV.cells, SX.evConv, SX.evSlice, SX.bnd, SX.evNil, SX.evUn, SX.evPick, SX.pickOpd, SX.popTo, SX.cnd, SX.env0, SX.TD.isAgg, SX.TD.isIface, SX.tails, SX.NotAgg, SX.evLookup, SX.evConvH, SX.evPtrEq, SX.isCells, SX.thaw, SX.frz, SX.fixB, SX.rootIx, SX.Froz, SX.frzStep, SX.fork, Go.Value.cells, Go.undef, cfg11]
    refine ⟨by (unfold SX.Ob; first | trivial | omega | ((try simp only [SX.inK]); (try simp [SX.den, SX.IsU8, SX.AllP, *]); (try omega))), ?_⟩
    intro a16 w16 hr16' _
    have hr16 := h15.unbase hr16'
    have hP16 := hP15.keep hr16'.keeps (loc_mB h15.all rfl hne1)
    refine post_call 22 [.ptr 9 b 0, .v (.int .u8 10)] hr16 (wanted_none rfl) rfl (callable 22 Tryd.func22) (writeByteA 10 hP16 (by first | (show (actP (numP ⟨bs ++ wd, bad⟩ x.who) x.a).bs.length + 1 ≤ 140737488355328; omega) | ((try simp only [List.length_append]); omega))) ?_
    rintro e17 w17 ⟨rfl, hP17, hk17⟩
    refine ⟨_, rfl, ?_⟩
    have h17 := hr16.retK hk17 (mB_step hr16.keeps) 59 (.v .nilIface) rfl _ (HpAll.to hk17 hr16.all (loc_all hr16.all rfl hne1)) (by simp) rfl
    refine seg cfg11_ok mixed PanicFree.body 1000 [] [] h17.rebase (by first | trivial | exact HpRep.nil | assumption) (by kernel_rfl) fun s_ hs_ => ?_
    simp (maxSteps := 10000000) [SX.vc, SX.stop, SX.contS, SX.contB, SX.contW, SX.contR, SX.contD, SX.sxStep, SX.stepPure, SX.stepNew, SX.stepStore, SX.stepKeep, SX.guardIx, SX.evOp, SX.opd, SX.opds, SX.optOpd, SX.look, SX.putS, SX.gobs, SX.AllP, SX.leave, SX.lookC, SX.lookB, SX.lookT, SX.lookN, SX.findK, SX.evBuiltin, SX.ints, SX.foldI, SX.evBin, SX.evInt, SX.evStr, SX.evEq, SX.arith, SX.evLoad, SX.shapeUp, SX.evFieldAddr, SX.evField, SX.evIndexAddr, SX.evIndex, SX.evFill, SX.evBuild, SX.szs, SX.cellsV, SX.evNew, SX.evStore, SX.spliceL, SX.SV.cells, SX.evConv, SX.evSlice, SX.bnd, SX.evNil, SX.evUn, SX.evPick, SX.pickOpd, SX.popTo, SX.cnd, SX.env0, SX.TD.isAgg, SX.TD.isIface, SX.tails, SX.NotAgg, SX.evLookup, SX.evConvH, SX.evPtrEq, SX.isCells, SX.thaw, SX.frz, SX.fixB, SX.rootIx, SX.Froz, SX.frzStep, SX.fork, Go.Value.cells, Go.undef, cfg11]
    refine ⟨by (unfold SX.Ob; first | trivial | omega | ((try simp only [SX.inK]); (try simp [SX.den, SX.IsU8, SX.AllP, *]); (try omega))), ?_⟩
    intro a18 w18 hr18' _
    have hr18 := h17.unbase hr18'
    refine post_nil (end0 hr18 rfl ⟨rfl, ?_, hr18.keeps⟩).2
    rw [hgood]
    exact hP17.keep hr18'.keeps (loc_mB h17.all rfl hne1)
  · -- who True, act False
    have h9 := hr8.top 0 (.ptr 9 b 0) rfl (by simp [den])
    refine seg cfg11_ok mixed PanicFree.body 1000 [] [] h9.rebase (by first | trivial | exact HpRep.nil | assumption) (by kernel_rfl) fun s_ hs_ => ?_
    simp (maxSteps := 10000000) [SX.vc, SX.stop, SX.contS, SX.contB, SX.contW, SX.contR, SX.contD, SX.sxStep, SX.stepPure, SX.stepNew, SX.stepStore, SX.stepKeep, SX.guardIx, SX.evOp, SX.opd, SX.opds, SX.optOpd, SX.look, SX.putS, SX.gobs, SX.AllP, SX.leave, SX.lookC, SX.lookB, SX.lookT, SX.lookN, SX.findK, SX.evBuiltin, SX.ints, SX.foldI, SX.evBin, SX.evInt, SX.evStr, SX.evEq, SX.arith, SX.evLoad, SX.shapeUp, SX.evFieldAddr, SX.evField, SX.evIndexAddr, SX.evIndex, SX.evFill, SX.evBuild, SX.szs, SX.cellsV, SX.evNew, SX.evStore, SX.spliceL, SX.SV.cells, SX.evConv, SX.evSlice, SX.bnd, SX.evNil, SX.evUn, SX.evPick, SX.pickOpd, SX.popTo, SX.cnd, SX.env0, SX.TD.isAgg, SX.TD.isIface, SX.tails, SX.NotAgg, SX.evLookup, SX.evConvH, SX.evPtrEq, SX.isCells, SX.thaw, SX.frz, SX.fixB, SX.rootIx, SX.Froz, SX.frzStep, SX.fork, Go.Value.cells, Go.undef, cfg11]
    refine ⟨by (unfold SX.Ob; first | trivial | omega | ((try simp only [SX.inK]); (try simp [SX.den, SX.IsU8, SX.AllP, *]); (try omega))), ?_⟩
    intro a10 w10 hr10' _
    have hr10 := h9.unbase hr10'
    have hP10 := hP8.keep hr10'.keeps (loc_mB h9.all rfl hne1)
    have hws := writeStringA wd hP10 hw0 (by omega)
    obtain ⟨lw, hlw⟩ : ∃ lw : Nat, wd.length = lw := ⟨_, rfl⟩
    rw [hlw] at hws
    refine post_call 19 [.ptr 9 b 0, .v (.string (Script.B wd))] hr10 (wanted_none rfl) rfl (callable 19 Tryd.func19) (hws) ?_
    rintro e11 w11 ⟨rfl, hP11, hk11⟩
    refine ⟨_, rfl, ?_⟩
    have h11 := hr10.retK hk11 (mB_step hr10.keeps) 45 (.tu [.v (.int .i64 lw), .v .nilIface]) rfl _ (HpAll.to hk11 hr10.all (loc_all hr10.all rfl hne1)) (by simp) rfl
    refine seg cfg11_ok mixed PanicFree.body 1000 [true] [] h11.rebase (by first | trivial | exact HpRep.nil | assumption) (by kernel_rfl) fun s_ hs_ => ?_
    simp (maxSteps := 10000000) [SX.vc, SX.stop, SX.contS, SX.contB, SX.contW, SX.contR, SX.contD, SX.sxStep, SX.stepPure, SX.stepNew, SX.stepStore, SX.stepKeep, SX.guardIx, SX.evOp, SX.opd, SX.opds, SX.optOpd, SX.look, SX.putS, SX.gobs, SX.AllP, SX.leave, SX.lookC, SX.lookB, SX.lookT, SX.lookN, SX.findK, SX.evBuiltin, SX.ints, SX.foldI, SX.evBin, SX.evInt, SX.evStr, SX.evEq, SX.arith, SX.evLoad, SX.shapeUp, SX.evFieldAddr, SX.evField, SX.evIndexAddr, SX.evIndex, SX.evFill, SX.evBuild, SX.szs, SX.cellsV, SX.evNew, SX.evStore, SX.spliceL, SX.SV.cells, SX.evConv, SX.evSlice, SX.bnd, SX.evNil, SX.evUn, SX.evPick, SX.pickOpd, SX.popTo, SX.cnd, SX.env0, SX.TD.isAgg, SX.TD.isIface, SX.tails, SX.NotAgg, SX.evLookup, SX.evConvH, SX.evPtrEq, SX.isCells, SX.thaw, SX.frz, SX.fixB, SX.rootIx, SX.Froz, SX.frzStep, SX.fork, Go.Value.cells, Go.undef, cfg11]
    refine ⟨by (unfold SX.Ob; first | trivial | omega | ((try simp only [SX.inK]); (try simp [SX.den, SX.IsU8, SX.AllP, *]); (try omega))), ?_⟩
    intro a12 w12 hr12' _
    have hr12 := h11.unbase hr12'
    have hP12 := hP11.keep hr12'.keeps (loc_mB h11.all rfl hne1)
    refine post_call 20 [.ptr 9 b 0, .v (.int .i64 x.who)] hr12 (wanted_none rfl) rfl (callable 20 Tryd.func20) (numberP_ok w12 B b _ _ x.who hP12 (by simp; omega)) ?_
    rintro e13 w13 ⟨rfl, hP13, hk13⟩
    refine ⟨_, rfl, ?_⟩
    have h13 := hr12.retK hk13 (mB_step hr12.keeps) 50 (.tu []) rfl _ (HpAll.to hk13 hr12.all (loc_all hr12.all rfl hne1)) (by simp) rfl
    have hl13 := numP_len ⟨bs ++ wd, bad⟩ x.who
    simp only [List.length_append] at hl13
    refine seg cfg11_ok mixed PanicFree.body 1000 [false] [] h13.rebase (by first | trivial | exact HpRep.nil | assumption) (by kernel_rfl) fun s_ hs_ => ?_
    simp (maxSteps := 10000000) [SX.vc, SX.stop, SX.contS, SX.contB, SX.contW, SX.contR, SX.contD, SX.sxStep, SX.stepPure, SX.stepNew, SX.stepStore, SX.stepKeep, SX.guardIx, SX.evOp, SX.opd, SX.opds, SX.optOpd, SX.look, SX.putS, SX.gobs, SX.AllP, SX.leave, SX.lookC, SX.lookB, SX.lookT, SX.lookN, SX.findK, SX.evBuiltin, SX.ints, SX.foldI, SX.evBin, SX.evInt, SX.evStr, SX.evEq, SX.arith, SX.evLoad, SX.shapeUp, SX.evFieldAddr, SX.evField, SX.evIndexAddr, SX.evIndex, SX.evFill, SX.evBuild, SX.szs, SX.cellsV, SX.evNew, SX.evStore, SX.spliceL, SX.SV.cells, SX.evConv, SX.evSlice, SX.bnd, SX.evNil, SX.evUn, SX.evPick, SX.pickOpd, SX.popTo, SX.cnd, SX.env0, SX.TD.isAgg, SX.TD.isIface, SX.tails, SX.NotAgg, SX.evLookup, SX.evConvH, SX.evPtrEq, SX.isCells, SX.thaw, SX.frz, SX.fixB, SX.rootIx, SX.Froz, SX.frzStep, SX.fork, Go.Value.cells, Go.undef, cfg11]
    refine ⟨by (unfold SX.Ob; first | trivial | omega | ((try simp only [SX.inK]); (try simp [SX.den, SX.IsU8, SX.AllP, *]); (try omega))), ?_⟩
    intro a16 w16 hr16' _
    have hr16 := h13.unbase hr16'
    have hP16 := hP13.keep hr16'.keeps (loc_mB h13.all rfl hne1)
    refine post_call 22 [.ptr 9 b 0, .v (.int .u8 10)] hr16 (wanted_none rfl) rfl (callable 22 Tryd.func22) (writeByteA 10 hP16 (by first | (show (actP (numP ⟨bs ++ wd, bad⟩ x.who) x.a).bs.length + 1 ≤ 140737488355328; omega) | ((try simp only [List.length_append]); omega))) ?_
    rintro e17 w17 ⟨rfl, hP17, hk17⟩
    refine ⟨_, rfl, ?_⟩
    have h17 := hr16.retK hk17 (mB_step hr16.keeps) 59 (.v .nilIface) rfl _ (HpAll.to hk17 hr16.all (loc_all hr16.all rfl hne1)) (by simp) rfl
    refine seg cfg11_ok mixed PanicFree.body 1000 [] [] h17.rebase (by first | trivial | exact HpRep.nil | assumption) (by kernel_rfl) fun s_ hs_ => ?_
    simp (maxSteps := 10000000) [SX.vc, SX.stop, SX.contS, SX.contB, SX.contW, SX.contR, SX.contD, SX.sxStep, SX.stepPure, SX.stepNew, SX.stepStore, SX.stepKeep, SX.guardIx, SX.evOp, SX.opd, SX.opds, SX.optOpd, SX.look, SX.putS, SX.gobs, SX.AllP, SX.leave, SX.lookC, SX.lookB, SX.lookT, SX.lookN, SX.findK, SX.evBuiltin, SX.ints, SX.foldI, SX.evBin, SX.evInt, SX.evStr, SX.evEq, SX.arith, SX.evLoad, SX.shapeUp, SX.evFieldAddr, SX.evField, SX.evIndexAddr, SX.evIndex, SX.evFill, SX.evBuild, SX.szs, SX.cellsV, SX.evNew, SX.evStore, SX.spliceL, SX.SV.cells, SX.evConv, SX.evSlice, SX.bnd, SX.evNil, SX.evUn, SX.evPick, SX.pickOpd, SX.popTo, SX.cnd, SX.env0, SX.TD.isAgg, SX.TD.isIface, SX.tails, SX.NotAgg, SX.evLookup, SX.evConvH, SX.evPtrEq, SX.isCells, SX.thaw, SX.frz, SX.fixB, SX.rootIx, SX.Froz, SX.frzStep, SX.fork, Go.Value.cells, Go.undef, cfg11]
    refine ⟨by (unfold SX.Ob; first | trivial | omega | ((try simp only [SX.inK]); (try simp [SX.den, SX.IsU8, SX.AllP, *]); (try omega))), ?_⟩
    intro a18 w18 hr18' _
    have hr18 := h17.unbase hr18'
    refine post_nil (end0 hr18 rfl ⟨rfl, ?_, hr18.keeps⟩).2
    rw [hgood]
    exact hP17.keep hr18'.keeps (loc_mB h17.all rfl hne1)
end Go.Proofs
