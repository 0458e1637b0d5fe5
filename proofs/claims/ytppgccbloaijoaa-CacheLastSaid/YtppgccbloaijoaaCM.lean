/- The cache: the chapter's example. -/
import Derived.Test.YtppgccbloaijoaaCV
namespace Go.Proofs
set_option linter.unusedVariables false
set_option linter.unusedSimpArgs false
set_option linter.unusedSectionVars false
open Go Go.SX Go.RowKit Go.Ring

theorem Cha.mono {P P' : Nat → Prop} {w w' : World} (h : Cha P w w') (hP : ∀ x, P x → P' x) : Cha P' w w' := by
  obtain ⟨M, h1, h2⟩ := h
  exact ⟨M, h1, fun x hx => hP x (h2 x hx)⟩

theorem put_fresh {P : Nat → Prop} {w w1 : World} {c : Nat} {most hits fails : Int} {A : List It} (hS : CS P w1 c most hits fails A) (hb : Below w1.heap.size w1 w) (hP : ∀ x, w1.heap.size ≤ x → P x) (t : It) (hl : 0 ≤ t.lba) (hv : 0 ≤ t.ver) (tb cap : Nat)
    (ht : w1.heap.size ≤ tb) (hB : Blk w tb cap t.g) :
    Calls Try.prog 8 (denL [.v (.pointer (some ⟨c, 0, none⟩)), .v (.int .i64 t.lba), .v (.int .i64 t.ver), .v (.slice (some ⟨tb, 0, none⟩) 16 cap)]).toArray w (PutS P w c most hits fails A t) := by
  have hS' : CS (fun x => P x ∧ x ≠ tb) w c most hits fails A := (hS.mono fun x hx hx' => ⟨hx', by omega⟩).keep hb
  have htb : tb < w.heap.size := by obtain ⟨u, hu⟩ := hB; exact SO.rep_lt hu
  refine (put_ok (fun x => P x ∧ x ≠ tb) w c most hits fails A hS' (fun x hx => ⟨hP x (Nat.le_trans hb.size hx), by omega⟩) t hl hv tb cap hB (by simp)).mono ?_
  rintro e w' ⟨rfl, hc, hS2⟩
  exact ⟨rfl, hc.mono fun x hx => hx.1, hS2.mono fun x _ hx => hx.1⟩

/-- Behind a call that turned blocks of P. -/
theorem _root_.Go.SX.RepX.retC {F : Fr} {st : St} {a : Act} {w w' : World} {P : Nat → Prop} (h : RepX F st a w) (hk : Cha P w w') (hP : ∀ x, P x → F.B ≤ x) (d : Nat) (x : SV) {v : Value} (hv : v = den x) (H : Hp) (hH : HpAll F w' H) (hd : d < st.nt)
    (hks : st.ks.all (fun r => r.tj != d) = true) : RepX F { st with env := (d, 0, x) :: st.env, hp := H } (a.put (some d) v) w' := by
  obtain ⟨M, h1, h2⟩ := hk
  exact h.retK h1 (fun b hb => .inl (hP b (h2 b hb))) d x hv H hH hd hks

theorem HpAll.cha {F : Fr} {w w' : World} {P : Nat → Prop} (hk : Cha P w w') {H : Hp} (h : HpAll F w H) (hn : ∀ e ∈ H, ¬ P e.1) : HpAll F w' H := by
  obtain ⟨M, h1, h2⟩ := hk
  exact HpAll.to h1 h fun e he hm => hn e he (h2 _ hm)

def itm (l v : Int) (n : Int) : It := ⟨l, v, tx n⟩

theorem live_tail (w : World) (n : Nat) (h : n ≤ w.heap.size) : ∀ x, w.heap.size ≤ x → n ≤ x := fun x hx => Nat.le_trans h hx

def LivePost (w : World) (e : Ending) (w' : World) : Prop := e = .returned (.bool true) ∧ Below w.heap.size w w'

theorem k1 : inK 1 := by unfold inK; omega
theorem k2 : inK 2 := by unfold inK; omega

set_option maxRecDepth 100000 in
set_option maxHeartbeats 8000000 in
theorem live_ok (w : World) : Calls Try.prog 6 (denL []).toArray w (LivePost w) := by
  refine enter (F := frame0 w) Try.func6 rfl [] [] (by simp [Try.f6]) trivial (keeps0 w) fun a hr => ?_
  refine seg cfg6_ok mixed PanicFree.body 1000 [] [] hr (by first | trivial | exact HpRep.nil | assumption) (by kernel_rfl) fun s_ hs_ => ?_
  simp (maxSteps := 10000000) [SX.vc, SX.stop, SX.contS, SX.contB, SX.contW, SX.contR, SX.contD, SX.sxStep, SX.stepPure, SX.stepNew, SX.stepStore, SX.stepKeep, SX.guardIx, SX.evOp, SX.opd, SX.opds, SX.optOpd, SX.look, SX.putS, SX.gobs, SX.AllP, SX.leave, SX.lookC, SX.lookB, SX.lookT, SX.lookN, SX.findK, SX.evBuiltin, SX.ints, SX.foldI, SX.evBin, SX.evInt, SX.evStr, SX.evEq, SX.arith, SX.evLoad, SX.shapeUp, SX.evFieldAddr, SX.evField, SX.evIndexAddr, SX.evIndex, SX.evFill, SX.evBuild, SX.szs, SX.cellsV, SX.evNew, SX.evStore, SX.spliceL, SX.SV.cells, SX.evConv, SX.evSlice, SX.bnd, SX.evNil, SX.evUn, SX.evPick, SX.pickOpd, SX.popTo, SX.cnd, SX.env0, SX.TD.isAgg, SX.TD.isIface, SX.tails, SX.NotAgg, SX.evLookup, SX.evConvH, SX.evPtrEq, SX.isCells, SX.thaw, SX.frz, SX.fixB, SX.rootIx, SX.Froz, SX.frzStep, SX.fork, Go.Value.cells, Go.undef, cfg6, Try.f6]
  refine ⟨by (unfold SX.Ob; first | trivial | omega | ((try simp only [SX.inK]); (try simp [SX.den, SX.IsU8, SX.AllP, *]); (try omega))), ?_⟩
  intro a1 w1 hr1 _
  have hz1 : w.heap.size ≤ w1.heap.size := hr1.keeps.size
  refine post_call 7 [.v (.int .i64 1)] hr1 (wanted_none rfl) rfl (callable 7 Try.func7) (new_okS (fun x => w.heap.size ≤ x) w1 1 k1 (live_tail w1 _ hz1)) ?_
  rintro e w2 ⟨c, rfl, hc, hb2, hS2⟩
  rw [show max (1 : Int) 0 = 1 from by omega] at hS2
  refine ⟨_, rfl, ?_⟩
  have h2 := hr1.ret hb2 10 (.ptr 0 c 0) rfl [] trivial (by simp) rfl
  refine seg cfg6_ok mixed PanicFree.body 1000 [false] [] h2.rebase (by first | trivial | exact HpRep.nil | assumption) (by kernel_rfl) fun s_ hs_ => ?_
  simp (maxSteps := 10000000) [SX.vc, SX.stop, SX.contS, SX.contB, SX.contW, SX.contR, SX.contD, SX.sxStep, SX.stepPure, SX.stepNew, SX.stepStore, SX.stepKeep, SX.guardIx, SX.evOp, SX.opd, SX.opds, SX.optOpd, SX.look, SX.putS, SX.gobs, SX.AllP, SX.leave, SX.lookC, SX.lookB, SX.lookT, SX.lookN, SX.findK, SX.evBuiltin, SX.ints, SX.foldI, SX.evBin, SX.evInt, SX.evStr, SX.evEq, SX.arith, SX.evLoad, SX.shapeUp, SX.evFieldAddr, SX.evField, SX.evIndexAddr, SX.evIndex, SX.evFill, SX.evBuild, SX.szs, SX.cellsV, SX.evNew, SX.evStore, SX.spliceL, SX.SV.cells, SX.evConv, SX.evSlice, SX.bnd, SX.evNil, SX.evUn, SX.evPick, SX.pickOpd, SX.popTo, SX.cnd, SX.env0, SX.TD.isAgg, SX.TD.isIface, SX.tails, SX.NotAgg, SX.evLookup, SX.evConvH, SX.evPtrEq, SX.isCells, SX.thaw, SX.frz, SX.fixB, SX.rootIx, SX.Froz, SX.frzStep, SX.fork, Go.Value.cells, Go.undef, cfg6]
  refine ⟨by (unfold SX.Ob; first | trivial | omega | ((try simp only [SX.inK]); (try simp [SX.den, SX.IsU8, SX.AllP, *]); (try omega))), ?_⟩
  intro a3 w3 hr3' _
  have hr3 := h2.unbase hr3'
  have hS3 := hS2.keep (by simpa [mutB] using hr3'.keeps.toBelow)
  refine post_call 9 [.v (.int .i64 1)] hr3 (wanted_none rfl) rfl (callable 9 Try.func9) (text_ok w3 1 k1) ?_
  rintro e w4 ⟨tb, rfl, htb, hB4, hb4⟩
  refine ⟨_, rfl, ?_⟩
  have h4 := hr3.ret hb4 14 (.v (.slice (some ⟨tb, 0, none⟩) 16 16)) rfl [] trivial (by simp) rfl
  refine post_call 8 [.ptr 0 c 0, .v (.int .i64 1), .v (.int .i64 5), .v (.slice (some ⟨tb, 0, none⟩) 16 16)] h4 (wanted_none rfl) rfl (callable 8 Try.func8) (put_fresh hS3 hb4 (live_tail w3 _ hr3.keeps.size) (itm 1 5 1) (by decide) (by decide) tb 16 htb ⟨5, hB4⟩) ?_
  rintro e w5 ⟨rfl, hk5, hS5⟩
  refine ⟨_, rfl, ?_⟩
  have e5 : putL 1 [] (itm 1 5 1) = [itm 1 5 1] := by simp [putL, findL, trimL, othersL]
  rw [e5] at hS5
  have h5 := h4.retC hk5 (fun _ h => h) 15 (.v (.int .i64 0)) rfl [] trivial (by simp) rfl
  refine seg cfg6_ok mixed PanicFree.body 1000 [] [] h5.rebase (by first | trivial | exact HpRep.nil | assumption) (by kernel_rfl) fun s_ hs_ => ?_
  simp (maxSteps := 10000000) [SX.vc, SX.stop, SX.contS, SX.contB, SX.contW, SX.contR, SX.contD, SX.sxStep, SX.stepPure, SX.stepNew, SX.stepStore, SX.stepKeep, SX.guardIx, SX.evOp, SX.opd, SX.opds, SX.optOpd, SX.look, SX.putS, SX.gobs, SX.AllP, SX.leave, SX.lookC, SX.lookB, SX.lookT, SX.lookN, SX.findK, SX.evBuiltin, SX.ints, SX.foldI, SX.evBin, SX.evInt, SX.evStr, SX.evEq, SX.arith, SX.evLoad, SX.shapeUp, SX.evFieldAddr, SX.evField, SX.evIndexAddr, SX.evIndex, SX.evFill, SX.evBuild, SX.szs, SX.cellsV, SX.evNew, SX.evStore, SX.spliceL, SX.SV.cells, SX.evConv, SX.evSlice, SX.bnd, SX.evNil, SX.evUn, SX.evPick, SX.pickOpd, SX.popTo, SX.cnd, SX.env0, SX.TD.isAgg, SX.TD.isIface, SX.tails, SX.NotAgg, SX.evLookup, SX.evConvH, SX.evPtrEq, SX.isCells, SX.thaw, SX.frz, SX.fixB, SX.rootIx, SX.Froz, SX.frzStep, SX.fork, Go.Value.cells, Go.undef, cfg6]
  refine ⟨by (unfold SX.Ob; first | trivial | omega | ((try simp only [SX.inK]); (try simp [SX.den, SX.IsU8, SX.AllP, *]); (try omega))), ?_⟩
  intro a6 w6 hr6' _
  have hr6 := h5.unbase hr6'
  have hS6 := hS5.keep (by simpa [mutB] using hr6'.keeps.toBelow)
  refine post_call 10 [.ptr 0 c 0, .v (.int .i64 1), .v (.int .i64 5)] hr6 (wanted_none rfl) rfl (callable 10 Try.func10) (get_okS _ w6 c _ _ _ _ hS6 1 5 k1 k1) ?_
  rintro e w7 ⟨hk7, hcase⟩
  rcases hcase with ⟨x, b', cap', hf, hv, rfl, hsz, ⟨u, hB7⟩, hS7⟩ | ⟨hno, _⟩
  rotate_left
  · exact absurd rfl (hno (itm 1 5 1) (by simp [findL, itm]))
  obtain rfl : itm 1 5 1 = x := by simpa [findL, itm] using hf
  refine ⟨_, rfl, ?_⟩
  have h7 := hr6.retC hk7 (fun _ h => h) 18 (.tu [.sl 0 b' 0 0 16 cap' 1, .v (.bool true)]) rfl [(b', false, .arr 0 16 (fun j => [.v (.int .u8 (tx 1 j))]) 1 u (0, 0))] ⟨⟨hB7, by simp, by simp⟩, trivial⟩ (by simp) rfl
  have hb7 := SO.rep_lt hB7
  refine seg cfg6_ok mixed PanicFree.body 1000 [] [] h7.rebase (by first | trivial | exact HpRep.nil | assumption) (by kernel_rfl) fun s_ hs_ => ?_
  simp (maxSteps := 10000000) [SX.vc, SX.stop, SX.contS, SX.contB, SX.contW, SX.contR, SX.contD, SX.sxStep, SX.stepPure, SX.stepNew, SX.stepStore, SX.stepKeep, SX.guardIx, SX.evOp, SX.opd, SX.opds, SX.optOpd, SX.look, SX.putS, SX.gobs, SX.AllP, SX.leave, SX.lookC, SX.lookB, SX.lookT, SX.lookN, SX.findK, SX.evBuiltin, SX.ints, SX.foldI, SX.evBin, SX.evInt, SX.evStr, SX.evEq, SX.arith, SX.evLoad, SX.shapeUp, SX.evFieldAddr, SX.evField, SX.evIndexAddr, SX.evIndex, SX.evFill, SX.evBuild, SX.szs, SX.cellsV, SX.evNew, SX.evStore, SX.spliceL, SX.SV.cells, SX.evConv, SX.evSlice, SX.bnd, SX.evNil, SX.evUn, SX.evPick, SX.pickOpd, SX.popTo, SX.cnd, SX.env0, SX.TD.isAgg, SX.TD.isIface, SX.tails, SX.NotAgg, SX.evLookup, SX.evConvH, SX.evPtrEq, SX.isCells, SX.thaw, SX.frz, SX.fixB, SX.rootIx, SX.Froz, SX.frzStep, SX.fork, Go.Value.cells, Go.undef, cfg6]
  refine ⟨by (unfold SX.Ob; first | trivial | omega | ((try simp only [SX.inK]); (try simp [SX.den, SX.IsU8, SX.AllP, *]); (try omega))), ?_⟩
  intro a8 w8 hr8' _
  have hr8 := h7.unbase hr8'
  have hS8 := hS7.keep (by simpa [mutB] using hr8'.keeps.toBelow)
  have hz8 : w7.heap.size ≤ w8.heap.size := hr8'.keeps.size
  refine post_call 9 [.v (.int .i64 2)] hr8 (wanted_none rfl) rfl (callable 9 Try.func9) (text_ok w8 2 k2) ?_
  rintro e w9 ⟨tb2, rfl, htb2, hB9, hb9⟩
  refine ⟨_, rfl, ?_⟩
  have h9 := hr8.ret hb9 22 (.v (.slice (some ⟨tb2, 0, none⟩) 16 16)) rfl _ (hr8.all.below hb9) (by simp) rfl
  refine post_call 8 [.ptr 0 c 0, .v (.int .i64 2), .v (.int .i64 5), .v (.slice (some ⟨tb2, 0, none⟩) 16 16)] h9 (wanted_none rfl) rfl (callable 8 Try.func8) (put_fresh hS8 hb9 (fun x hx => ⟨live_tail w8 _ hr8.keeps.size x hx, by omega⟩) (itm 2 5 2) (by decide) (by decide) tb2 16 htb2 ⟨5, hB9⟩) ?_
  rintro e w10 ⟨rfl, hk10, hS10⟩
  refine ⟨_, rfl, ?_⟩
  have e10 : putL 1 (itm 1 5 1 :: othersL 1 [itm 1 5 1]) (itm 2 5 2) = [itm 2 5 2] := by simp [putL, findL, trimL, othersL, itm]
  rw [e10] at hS10
  have h10 := h9.retC hk10 (fun _ h => h.1) 23 (.v (.int .i64 0)) rfl _ (HpAll.cha hk10 h9.all (by simp)) (by simp) rfl
  refine seg cfg6_ok mixed PanicFree.body 1000 [] [] h10.rebase (by first | trivial | exact HpRep.nil | assumption) (by kernel_rfl) fun s_ hs_ => ?_
  simp (maxSteps := 10000000) [SX.vc, SX.stop, SX.contS, SX.contB, SX.contW, SX.contR, SX.contD, SX.sxStep, SX.stepPure, SX.stepNew, SX.stepStore, SX.stepKeep, SX.guardIx, SX.evOp, SX.opd, SX.opds, SX.optOpd, SX.look, SX.putS, SX.gobs, SX.AllP, SX.leave, SX.lookC, SX.lookB, SX.lookT, SX.lookN, SX.findK, SX.evBuiltin, SX.ints, SX.foldI, SX.evBin, SX.evInt, SX.evStr, SX.evEq, SX.arith, SX.evLoad, SX.shapeUp, SX.evFieldAddr, SX.evField, SX.evIndexAddr, SX.evIndex, SX.evFill, SX.evBuild, SX.szs, SX.cellsV, SX.evNew, SX.evStore, SX.spliceL, SX.SV.cells, SX.evConv, SX.evSlice, SX.bnd, SX.evNil, SX.evUn, SX.evPick, SX.pickOpd, SX.popTo, SX.cnd, SX.env0, SX.TD.isAgg, SX.TD.isIface, SX.tails, SX.NotAgg, SX.evLookup, SX.evConvH, SX.evPtrEq, SX.isCells, SX.thaw, SX.frz, SX.fixB, SX.rootIx, SX.Froz, SX.frzStep, SX.fork, Go.Value.cells, Go.undef, cfg6]
  refine ⟨by (unfold SX.Ob; first | trivial | omega | ((try simp only [SX.inK]); (try simp [SX.den, SX.IsU8, SX.AllP, *]); (try omega))), ?_⟩
  intro a11 w11 hr11' _
  have hr11 := h10.unbase hr11'
  have hS11 := hS10.keep (by simpa [mutB] using hr11'.keeps.toBelow)
  refine post_call 10 [.ptr 0 c 0, .v (.int .i64 1), .v (.int .i64 5)] hr11 (wanted_none rfl) rfl (callable 10 Try.func10) (get_okS _ w11 c _ _ _ _ hS11 1 5 k2 k1) ?_
  rintro e w12 ⟨hk12, hcase⟩
  rcases hcase with ⟨x, _, _, hf, _⟩ | ⟨_, rfl, hS12⟩
  · simp [findL, itm] at hf
  refine ⟨_, rfl, ?_⟩
  have h12 := hr11.retC hk12 (fun _ h => h.1) 26 (.tu [.v (.slice none 0 0), .v (.bool false)]) rfl _ (HpAll.cha hk12 hr11.all (by simp)) (by simp) rfl
  refine seg cfg6_ok mixed PanicFree.body 1000 [] [] h12.rebase (by first | trivial | exact HpRep.nil | assumption) (by kernel_rfl) fun s_ hs_ => ?_
  simp (maxSteps := 10000000) [SX.vc, SX.stop, SX.contS, SX.contB, SX.contW, SX.contR, SX.contD, SX.sxStep, SX.stepPure, SX.stepNew, SX.stepStore, SX.stepKeep, SX.guardIx, SX.evOp, SX.opd, SX.opds, SX.optOpd, SX.look, SX.putS, SX.gobs, SX.AllP, SX.leave, SX.lookC, SX.lookB, SX.lookT, SX.lookN, SX.findK, SX.evBuiltin, SX.ints, SX.foldI, SX.evBin, SX.evInt, SX.evStr, SX.evEq, SX.arith, SX.evLoad, SX.shapeUp, SX.evFieldAddr, SX.evField, SX.evIndexAddr, SX.evIndex, SX.evFill, SX.evBuild, SX.szs, SX.cellsV, SX.evNew, SX.evStore, SX.spliceL, SX.SV.cells, SX.evConv, SX.evSlice, SX.bnd, SX.evNil, SX.evUn, SX.evPick, SX.pickOpd, SX.popTo, SX.cnd, SX.env0, SX.TD.isAgg, SX.TD.isIface, SX.tails, SX.NotAgg, SX.evLookup, SX.evConvH, SX.evPtrEq, SX.isCells, SX.thaw, SX.frz, SX.fixB, SX.rootIx, SX.Froz, SX.frzStep, SX.fork, Go.Value.cells, Go.undef, cfg6]
  refine ⟨by (unfold SX.Ob; first | trivial | omega | ((try simp only [SX.inK]); (try simp [SX.den, SX.IsU8, SX.AllP, *]); (try omega))), ?_⟩
  intro a13 w13 hr13' _
  have hr13 := h12.unbase hr13'
  have hS13 := hS12.keep (by simpa [mutB] using hr13'.keeps.toBelow)
  refine post_call 11 [.ptr 0 c 0] hr13 (wanted_none rfl) rfl (callable 11 Try.func11) (hits_okS _ w13 c _ _ _ _ hS13) ?_
  rintro e w14 ⟨rfl, hb14⟩
  refine ⟨_, rfl, ?_⟩
  have h14 := hr13.ret hb14 31 (.tu [.v (.int .i64 (0 + 1)), .v (.int .i64 (0 + 1))]) rfl _ (hr13.all.below hb14) (by simp) rfl
  refine seg cfg6_ok mixed PanicFree.body 1000 [] [(36, true), (39, true)] h14 (by first | trivial | exact HpRep.nil | assumption) (by kernel_rfl) fun s_ hs_ => ?_
  simp (maxSteps := 10000000) [SX.vc, SX.stop, SX.contS, SX.contB, SX.contW, SX.contR, SX.contD, SX.sxStep, SX.stepPure, SX.stepNew, SX.stepStore, SX.stepKeep, SX.guardIx, SX.evOp, SX.opd, SX.opds, SX.optOpd, SX.look, SX.putS, SX.gobs, SX.AllP, SX.leave, SX.lookC, SX.lookB, SX.lookT, SX.lookN, SX.findK, SX.evBuiltin, SX.ints, SX.foldI, SX.evBin, SX.evInt, SX.evStr, SX.evEq, SX.arith, SX.evLoad, SX.shapeUp, SX.evFieldAddr, SX.evField, SX.evIndexAddr, SX.evIndex, SX.evFill, SX.evBuild, SX.szs, SX.cellsV, SX.evNew, SX.evStore, SX.spliceL, SX.SV.cells, SX.evConv, SX.evSlice, SX.bnd, SX.evNil, SX.evUn, SX.evPick, SX.pickOpd, SX.popTo, SX.cnd, SX.env0, SX.TD.isAgg, SX.TD.isIface, SX.tails, SX.NotAgg, SX.evLookup, SX.evConvH, SX.evPtrEq, SX.isCells, SX.thaw, SX.frz, SX.fixB, SX.rootIx, SX.Froz, SX.frzStep, SX.fork, Go.Value.cells, Go.undef, cfg6]
  refine ⟨by (unfold SX.Ob; first | trivial | omega | ((try simp only [SX.inK]); (try simp [SX.den, SX.IsU8, SX.AllP, *]); (try omega))), ?_⟩
  intro a15 w15 hr15 ht15
  refine post_callD 9 [.v (.int .i64 1)] hr15 rfl (wanted_zero (hr15.env.same rfl rfl rfl rfl) rfl (by simp)) rfl (callable 9 Try.func9) (text_ok w15 1 k1) ?_
  rintro e w16 ⟨tb3, rfl, htb3, hB16, hb16⟩
  have ht16 := HpRep_below ht15 hb16
  refine ⟨_, rfl, ht16, ?_⟩
  have hA15 := hr15.all
  have h16 := hr15.ret hb16 42 (.sl 1 tb3 0 0 16 16 1) rfl [(b', false, .arr 0 16 (fun j => [.v (.int .u8 (tx 1 j))]) 1 u (0, 0)), (tb3, false, .arr 0 16 (fun j => [.v (.int .u8 (tx 1 j))]) 1 5 (0, 0))] (HpAll.append (hr15.all.below hb16) hB16 (by simp) (by
    intro e he
    simp at he
    subst he
    have := SO.rep_lt hA15.1.1
    simp only
    omega)) (by simp) rfl
  refine seg cfg6_ok mixed PanicFree.body 1000 [] [(39, true), (46, true), (50, true), (54, true), (58, true)] h16 (by first | trivial | exact HpRep.nil | assumption) (by kernel_rfl) fun s_ hs_ => ?_
  simp (maxSteps := 10000000) [SX.vc, SX.stop, SX.contS, SX.contB, SX.contW, SX.contR, SX.contD, SX.sxStep, SX.stepPure, SX.stepNew, SX.stepStore, SX.stepKeep, SX.guardIx, SX.evOp, SX.opd, SX.opds, SX.optOpd, SX.look, SX.putS, SX.gobs, SX.AllP, SX.leave, SX.lookC, SX.lookB, SX.lookT, SX.lookN, SX.findK, SX.evBuiltin, SX.ints, SX.foldI, SX.evBin, SX.evInt, SX.evStr, SX.evEq, SX.arith, SX.evLoad, SX.shapeUp, SX.evFieldAddr, SX.evField, SX.evIndexAddr, SX.evIndex, SX.evFill, SX.evBuild, SX.szs, SX.cellsV, SX.evNew, SX.evStore, SX.spliceL, SX.SV.cells, SX.evConv, SX.evSlice, SX.bnd, SX.evNil, SX.evUn, SX.evPick, SX.pickOpd, SX.popTo, SX.cnd, SX.env0, SX.TD.isAgg, SX.TD.isIface, SX.tails, SX.NotAgg, SX.evLookup, SX.evConvH, SX.evPtrEq, SX.isCells, SX.thaw, SX.frz, SX.fixB, SX.rootIx, SX.Froz, SX.frzStep, SX.fork, Go.Value.cells, Go.undef, cfg6]
  refine ⟨by (unfold SX.Ob; first | trivial | omega | ((try simp only [SX.inK]); (try simp [SX.den, SX.IsU8, SX.AllP, *]); (try omega))), ?_⟩
  intro a17 w17 hr17 _
  exact post_retn (end1 hr17 rfl rfl ⟨rfl, hr17.keeps.toBelow⟩).1
end Go.Proofs
