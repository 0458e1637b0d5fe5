/- Live: LiveSkips walked. -/
import Derived.Test.YtnmjdelnllchdaaDR
import Derived.Test.YtnmjdelnllchdaaDQ
namespace Go.Proofs
set_option linter.unusedVariables false
set_option linter.unusedSimpArgs false
open Go Go.SX Go.RowKit

/-- append in a region that draws, of slices as lists. -/
theorem post_appD {P : Program} {α : Type} {enc : α → List SV} {sz : Nat} {d : α} {Pb : Nat → Prop} {C : Cfg} (htt : TTok P C.tt) {Qe : Exit → Act → World → Prop} {F : Fr} {st : St} {all : Array Oper} {hp0 : Hp} {ix : Nat} {o : Oper} {l : List (Nat × Nat)} {k : List W} {a : Act} {w : World} (hr : RepX F st a w) (hix : all[ix]? = some o) (hw : o.guard = none) {dd : Nat} (hdst : o.dst = some dd) (hdn : dd < st.nt) (hks : st.ks.all (fun r => r.tj != dd) = true)
    {x y : SV} {t t' : TypeId} (he : evApp st o.op = some (x, y, t, t')) {e e' : TypeId} {ti ti' te : TI} (ht : lookT C.tt t = some ti) (hd1 : ti.d = .slice e) (ht' : lookT C.tt t' = some ti') (hd2 : ti'.d = .slice e') (hte : lookT C.tt e = some te) (hz : te.zero.cells.size = sz) (hsz : te.sz = sz) (hby : te.by_ ≠ 0)
    {L M : List α} {Q : Nat → Prop} (hfl : ∀ x ∈ M, ∀ c ∈ enc x, NotAgg (den c)) (hbig : (2 * (L.length + M.length) + 192) * te.by_ ≤ 281474976710656) (hPb : ∀ x, w.heap.size ≤ x → Pb x) (hV : OwS enc sz d Pb w (den x) L) (hS : RdS enc sz d Q w (den y) M)
    (H : Hp) (hH : ∀ w' B, KeepsTo w B w' → (∀ x ∈ B, Pb x ∧ x < w.heap.size) → HpAll F w' H) (hF : ∀ x, Pb x → F.B ≤ x ∨ x ∈ F.M) (hfz : ∀ w' B, KeepsTo w B w' → (∀ x ∈ B, Pb x ∧ x < w.heap.size) → HpRep (frz hp0) w')
    (hk : ∀ V' a' w' B, OwS enc sz d Pb w' V' (L ++ M) → (∀ x ∈ B, Pb x ∧ x < w.heap.size) → KeepsTo w B w' → RepX F { st with env := (dd, 0, .v V') :: st.env, hp := H } a' w' → post P Qe (.opsD all hp0 l :: k) .normal a' w') : post P Qe (.opsD all hp0 ((ix, 3) :: l) :: k) .normal a w := by
  obtain ⟨V', w', B, h1, h2, h3, h4⟩ := app_ow (ty := o.type) hPb ((htt _ _ ht).slice hd1) ((htt _ _ ht').slice hd2) (htt _ _ hte) hz hsz hby hfl hbig hV hS
  have e1 := evApp_sound (P := P) (hr.env.same (st' := st) rfl rfl rfl rfl) he w
  rw [h1] at e1
  simp only [Result.andThen_ok] at e1
  refine post_stepD3 hix (wanted_none hw) e1 (hfz w' B h4 h3) ?_
  rw [hdst]
  exact hk V' _ w' B h2 h3 h4 (hr.retK h4 (fun b hb => hF b (h3 b hb).1) dd (.v V') rfl H (hH w' B h4 h3) hdn hks)
/-- A call in a region that draws, behind loads that may come at any time. -/
theorem post_callD3 {P : Program} {Q : Exit → Act → World → Prop} {F : Fr} {st : St} {all : Array Oper} {hp0 : Hp} {o : Oper} {i : Nat} {l : List (Nat × Nat)} {k : List W} {a : Act} {w : World} {R : Ending → World → Prop} (g : FuncId) (xs : List SV)
    (hr : RepX F st a w) (hi : all[i]? = some o) (hw : Region.wanted o (yielded all a.tmps) = true) (he : evCall st 0 o.op = some (g, xs)) (hg : Callable P g) (hc : Calls P g (denL xs).toArray w R)
    (hk : ∀ e w', R e w' → ∃ v, e = .returned v ∧ HpRep (frz hp0) w' ∧ post P Q (.opsD all hp0 l :: k) .normal (a.put o.dst v) w') : post P Q (.opsD all hp0 ((i, 3) :: l) :: k) .normal a w := by
  show wpSeqD P all (post P Q k) (HpRep hp0) (HpRep (frz hp0)) ((i, 3) :: l) a w
  simp only [wpSeqD, Nat.reduceBEq, Bool.false_eq_true, if_false, if_true]
  unfold wpOp
  simp only [hi, hw, if_true]
  refine .inl ?_
  have e1 := evCall_sound (P := P) (w := w) (hr.env.same (st' := st) rfl rfl rfl rfl) (c := 0) rfl he hg
  simp only [Oper.wp, e1, Oper.upon]
  refine hc.mono fun e w' hR => ?_
  obtain ⟨v, rfl, h1, h2⟩ := hk e w' hR
  exact ⟨h1, h2⟩

def SkLoop (B : Nat) (F : Fr) (d : Dev) (R1 : List Int) (K : List Int) (s3 : Nat) (vz v1 v2 vm v9 : Value) (m : Nat) (a : Act) (w' : World) : Prop :=
  ∃ (k : Nat) (vo : Value), m = R1.length - k ∧ k ≤ R1.length ∧ OwI (fun x => B ≤ x) w' vo ((R1.take k).filter fun x => decide (x ∉ K)) ∧ RepX F ⟨[(35, 0, .v (.int .i64 k)), (34, 0, .v (.int .i64 R1.length)), (33, 0, .v v1), (10, 0, .v vo), (2, 0, .v v2), (1, 0, .v vm), (9, 0, .v v9), (3, 0, .ptr 0 s3 0), (7, 0, .v (.bool true))], [(s3, false, .cells (devC d vz) 24)], 0, 0, 67, [], [], []⟩ a w'

set_option maxRecDepth 100000 in
set_option maxHeartbeats 32000000 in
/-- LiveSkips. -/
theorem skips_ok (w : World) (v vm v2 : Value) (d : Dev) (L : List Ext) (K : List Int) (hL : RdZ (fun x => x < w.heap.size) w v d.Z) (hn : d.Z.length ≤ 1000000000000000) (hl : LenOK d.Z) (hM : RdE (fun x => x < w.heap.size) w vm L) (hnM : L.length ≤ 1000000000000000) (hK : RdI (fun x => x < w.heap.size) w v2 K) (hnK : K.length ≤ 1000000000000000) : Calls Try.prog 3 (denL [.ag (devC d v), .v vm, .v v2]).toArray w (fun ev w' => ev = .returned (.bool true) ∧ Below w.heap.size w w') := by
  obtain ⟨ad, cp, rfl⟩ := hL.slice
  obtain ⟨adm, cpm, rfl⟩ := hM.slice
  obtain ⟨adk, cpk, rfl⟩ := hK.slice
  refine enter (F := frame0 w) Try.func3 rfl [.ag (devC d (.slice ad d.Z.length cp)), .v (.slice adm L.length cpm), .v (.slice adk K.length cpk)] [] (by simp [Try.f3]) trivial (keeps0 w) fun a hr => ?_
  refine seg cfg3_ok mixed PanicFree.body 1000 [] [] hr (by first | trivial | exact HpRep.nil | assumption) (by kernel_rfl) fun s3 hs3 => ?_
  simp (maxSteps := 10000000) [SX.vc, SX.stop, SX.contS, SX.contB, SX.contW, SX.contR, SX.contD, SX.sxStep, SX.stepPure, SX.stepNew, SX.stepStore, SX.stepKeep, SX.guardIx, SX.evOp, SX.opd, SX.opds, SX.optOpd, SX.look, SX.putS, SX.gobs, SX.AllP, SX.leave, SX.lookC, SX.lookB, SX.lookT, SX.lookN, SX.findK, SX.evBuiltin, SX.ints, SX.foldI, SX.evBin, SX.evInt, SX.evStr, SX.evEq, SX.arith, SX.evLoad, SX.shapeUp, SX.evFieldAddr, SX.evField, SX.evIndexAddr, SX.evIndex, SX.evFill, SX.evBuild, SX.szs, SX.cellsV, SX.evNew, SX.evStore, SX.spliceL, SX.SV.cells, SX.evConv, SX.evSlice, SX.bnd, SX.evNil, SX.evUn, SX.evPick, SX.pickOpd, SX.popTo, SX.cnd, SX.env0, SX.TD.isAgg, SX.TD.isIface, SX.tails, SX.NotAgg, SX.evLookup, SX.evConvH, SX.evPtrEq, SX.isCells, SX.thaw, SX.frz, SX.fixB, SX.rootIx, SX.Froz, SX.frzStep, SX.fork, Go.Value.cells, Go.undef, cfg3, Try.f3, devC]
  refine ⟨by (unfold SX.Ob; first | trivial | omega | ((try simp only [SX.inK]); (try simp [SX.den, SX.IsU8, SX.AllP, *]); (try omega))), ?_⟩
  intro a1 w1 hr1 _
  refine post_call 8 [] hr1 (by first | exact wanted_none rfl | exact wanted_zero (hr1.env.same rfl rfl rfl rfl) rfl (by simp) | exact wanted_zero (hr1.env.same rfl rfl rfl rfl) rfl (by simp [*])) rfl (callable 8 Try.func8) (up_ok w1) ?_
  rintro e2 w2 ⟨rfl, hb2⟩
  refine ⟨_, rfl, ?_⟩
  have h2 := hr1.ret hb2 15 (.v (.bool true)) rfl _ (hr1.all.below hb2) (by simp) rfl
  refine seg cfg3_ok mixed PanicFree.body 1000 [] [] h2 (by first | trivial | exact HpRep.nil | assumption) (by kernel_rfl) fun s_ hs_ => ?_
  simp (maxSteps := 10000000) [SX.vc, SX.stop, SX.contS, SX.contB, SX.contW, SX.contR, SX.contD, SX.sxStep, SX.stepPure, SX.stepNew, SX.stepStore, SX.stepKeep, SX.guardIx, SX.evOp, SX.opd, SX.opds, SX.optOpd, SX.look, SX.putS, SX.gobs, SX.AllP, SX.leave, SX.lookC, SX.lookB, SX.lookT, SX.lookN, SX.findK, SX.evBuiltin, SX.ints, SX.foldI, SX.evBin, SX.evInt, SX.evStr, SX.evEq, SX.arith, SX.evLoad, SX.shapeUp, SX.evFieldAddr, SX.evField, SX.evIndexAddr, SX.evIndex, SX.evFill, SX.evBuild, SX.szs, SX.cellsV, SX.evNew, SX.evStore, SX.spliceL, SX.SV.cells, SX.evConv, SX.evSlice, SX.bnd, SX.evNil, SX.evUn, SX.evPick, SX.pickOpd, SX.popTo, SX.cnd, SX.env0, SX.TD.isAgg, SX.TD.isIface, SX.tails, SX.NotAgg, SX.evLookup, SX.evConvH, SX.evPtrEq, SX.isCells, SX.thaw, SX.frz, SX.fixB, SX.rootIx, SX.Froz, SX.frzStep, SX.fork, Go.Value.cells, Go.undef, cfg3, devC]
  refine ⟨by (unfold SX.Ob; first | trivial | omega | ((try simp only [SX.inK]); (try simp [SX.den, SX.IsU8, SX.AllP, *]); (try omega))), ?_⟩
  intro a3 w3 hr3 _
  refine post_call 9 [.ag [.v (.int .i64 d.cap), .v (.int .i64 d.op), .v (.int .i64 d.ac), .v (.slice ad d.Z.length cp)], .v (.slice adm L.length cpm)] hr3 (by first | exact wanted_none rfl | exact wanted_zero (hr3.env.same rfl rfl rfl rfl) rfl (by simp) | exact wanted_zero (hr3.env.same rfl rfl rfl rfl) rfl (by simp [*])) rfl (callable 9 Try.func9) (few_ok w3 _ d adm L.length cpm (hL.below hr3.keeps.toBelow) hn hl (by omega)) ?_
  rintro e4 w4 ⟨rfl, hb4⟩
  refine ⟨_, rfl, ?_⟩
  have h4 := hr3.ret hb4 18 (.v (.bool (decide (FewD d.Z L.length)))) rfl _ (hr3.all.below hb4) (by simp) rfl
  by_cases hF : FewD d.Z L.length
  rotate_left
  · refine seg cfg3_ok mixed PanicFree.body 1000 [true] [(20, true)] h4 (by first | trivial | exact HpRep.nil | assumption) (by kernel_rfl) fun s_ hs_ => ?_
    simp (maxSteps := 10000000) [SX.vc, SX.stop, SX.contS, SX.contB, SX.contW, SX.contR, SX.contD, SX.sxStep, SX.stepPure, SX.stepNew, SX.stepStore, SX.stepKeep, SX.guardIx, SX.evOp, SX.opd, SX.opds, SX.optOpd, SX.look, SX.putS, SX.gobs, SX.AllP, SX.leave, SX.lookC, SX.lookB, SX.lookT, SX.lookN, SX.findK, SX.evBuiltin, SX.ints, SX.foldI, SX.evBin, SX.evInt, SX.evStr, SX.evEq, SX.arith, SX.evLoad, SX.shapeUp, SX.evFieldAddr, SX.evField, SX.evIndexAddr, SX.evIndex, SX.evFill, SX.evBuild, SX.szs, SX.cellsV, SX.evNew, SX.evStore, SX.spliceL, SX.SV.cells, SX.evConv, SX.evSlice, SX.bnd, SX.evNil, SX.evUn, SX.evPick, SX.pickOpd, SX.popTo, SX.cnd, SX.env0, SX.TD.isAgg, SX.TD.isIface, SX.tails, SX.NotAgg, SX.evLookup, SX.evConvH, SX.evPtrEq, SX.isCells, SX.thaw, SX.frz, SX.fixB, SX.rootIx, SX.Froz, SX.frzStep, SX.fork, Go.Value.cells, Go.undef, cfg3, hF]
    refine ⟨by (unfold SX.Ob; first | trivial | omega | ((try simp only [SX.inK]); (try simp [SX.den, SX.IsU8, SX.AllP, *]); (try omega))), ?_⟩
    intro a5 w5 hr5 _
    exact post_retn (end1 hr5 rfl rfl ⟨rfl, hr5.keeps.toBelow⟩).1
  have hm300 : L.length < 300 := hF.2.2
  have hz100 : d.Z.length < 100 := hF.2.1
  by_cases hK1 : 100 < (K.length : Int)
  · refine seg cfg3_ok mixed PanicFree.body 1000 [true] [(20, false)] h4 (by first | trivial | exact HpRep.nil | assumption) (by kernel_rfl) fun s_ hs_ => ?_
    simp (maxSteps := 10000000) [SX.vc, SX.stop, SX.contS, SX.contB, SX.contW, SX.contR, SX.contD, SX.sxStep, SX.stepPure, SX.stepNew, SX.stepStore, SX.stepKeep, SX.guardIx, SX.evOp, SX.opd, SX.opds, SX.optOpd, SX.look, SX.putS, SX.gobs, SX.AllP, SX.leave, SX.lookC, SX.lookB, SX.lookT, SX.lookN, SX.findK, SX.evBuiltin, SX.ints, SX.foldI, SX.evBin, SX.evInt, SX.evStr, SX.evEq, SX.arith, SX.evLoad, SX.shapeUp, SX.evFieldAddr, SX.evField, SX.evIndexAddr, SX.evIndex, SX.evFill, SX.evBuild, SX.szs, SX.cellsV, SX.evNew, SX.evStore, SX.spliceL, SX.SV.cells, SX.evConv, SX.evSlice, SX.bnd, SX.evNil, SX.evUn, SX.evPick, SX.pickOpd, SX.popTo, SX.cnd, SX.env0, SX.TD.isAgg, SX.TD.isIface, SX.tails, SX.NotAgg, SX.evLookup, SX.evConvH, SX.evPtrEq, SX.isCells, SX.thaw, SX.frz, SX.fixB, SX.rootIx, SX.Froz, SX.frzStep, SX.fork, Go.Value.cells, Go.undef, cfg3, hF, hK1]
    refine ⟨by (unfold SX.Ob; first | trivial | omega | ((try simp only [SX.inK]); (try simp [SX.den, SX.IsU8, SX.AllP, *]); (try omega))), ?_⟩
    intro a5 w5 hr5 _
    exact post_retn (end1 hr5 rfl rfl ⟨rfl, hr5.keeps.toBelow⟩).1
  have hS := sortC d.Z.length (by omega)
  refine seg cfg3_ok mixed PanicFree.body 1000 [false] [(20, false)] h4 (by first | trivial | exact HpRep.nil | assumption) (by kernel_rfl) fun s_ hs_ => ?_
  simp (maxSteps := 10000000) [SX.vc, SX.stop, SX.contS, SX.contB, SX.contW, SX.contR, SX.contD, SX.sxStep, SX.stepPure, SX.stepNew, SX.stepStore, SX.stepKeep, SX.guardIx, SX.evOp, SX.opd, SX.opds, SX.optOpd, SX.look, SX.putS, SX.gobs, SX.AllP, SX.leave, SX.lookC, SX.lookB, SX.lookT, SX.lookN, SX.findK, SX.evBuiltin, SX.ints, SX.foldI, SX.evBin, SX.evInt, SX.evStr, SX.evEq, SX.arith, SX.evLoad, SX.shapeUp, SX.evFieldAddr, SX.evField, SX.evIndexAddr, SX.evIndex, SX.evFill, SX.evBuild, SX.szs, SX.cellsV, SX.evNew, SX.evStore, SX.spliceL, SX.SV.cells, SX.evConv, SX.evSlice, SX.bnd, SX.evNil, SX.evUn, SX.evPick, SX.pickOpd, SX.popTo, SX.cnd, SX.env0, SX.TD.isAgg, SX.TD.isIface, SX.tails, SX.NotAgg, SX.evLookup, SX.evConvH, SX.evPtrEq, SX.isCells, SX.thaw, SX.frz, SX.fixB, SX.rootIx, SX.Froz, SX.frzStep, SX.fork, Go.Value.cells, Go.undef, cfg3, hF, hK1, devC]
  refine ⟨by (unfold SX.Ob; first | trivial | omega | ((try simp only [SX.inK]); (try simp [SX.den, SX.IsU8, SX.AllP, *]); (try omega))), ?_⟩
  intro a5 w5 hr5 _
  have z5 : w.heap.size ≤ w5.heap.size := hr5.keeps.size
  have k3 := SO.rep_lt hr5.all.1.1
  have hs3 : w.heap.size ≤ s3 := by
    rcases hr5.all.1.2.1 rfl with h | h
    · exact h
    · cases h
  refine post_call 10 [.ag [.v (.int .i64 d.cap), .v (.int .i64 d.op), .v (.int .i64 d.ac), .v (.slice ad d.Z.length cp)], .v (.slice adm L.length cpm), .v (.int .i64 1000), .v (.slice none 0 0)] hr5 (by first | exact wanted_none rfl | exact wanted_zero (hr5.env.same rfl rfl rfl rfl) rfl (by simp) | exact wanted_zero (hr5.env.same rfl rfl rfl rfl) rfl (by simp [*])) rfl (callable 10 Try.func10) (Plan_ok w5 _ _ (.slice none 0 0) d L 1000 [] (hL.below hr5.keeps.toBelow) hn hl (hM.below hr5.keeps.toBelow) (by omega) (.inl ⟨rfl, _, _, rfl⟩ : RdI (fun _ => True) w5 _ []) (by simp) hS) ?_
  rintro e6 w6 ⟨v6, R1, rfl, hR6, hSt1, hb6⟩
  refine ⟨_, rfl, ?_⟩
  have h6 := hr5.ret hb6 28 (.v v6) rfl _ (hr5.all.below hb6) (by simp) rfl
  have hl1 := hSt1.len_le
  rw [show planN R1.length 1000 = R1.length by unfold planN; rw [if_pos (by omega)], List.take_length] at hR6
  obtain ⟨ad1, cp1, rfl⟩ := hR6.slice
  refine seg cfg3_ok mixed PanicFree.body 1000 [] [] h6.rebase (by first | trivial | exact HpRep.nil | assumption) (by kernel_rfl) fun s_ hs_ => ?_
  simp (maxSteps := 10000000) [SX.vc, SX.stop, SX.contS, SX.contB, SX.contW, SX.contR, SX.contD, SX.sxStep, SX.stepPure, SX.stepNew, SX.stepStore, SX.stepKeep, SX.guardIx, SX.evOp, SX.opd, SX.opds, SX.optOpd, SX.look, SX.putS, SX.gobs, SX.AllP, SX.leave, SX.lookC, SX.lookB, SX.lookT, SX.lookN, SX.findK, SX.evBuiltin, SX.ints, SX.foldI, SX.evBin, SX.evInt, SX.evStr, SX.evEq, SX.arith, SX.evLoad, SX.shapeUp, SX.evFieldAddr, SX.evField, SX.evIndexAddr, SX.evIndex, SX.evFill, SX.evBuild, SX.szs, SX.cellsV, SX.evNew, SX.evStore, SX.spliceL, SX.SV.cells, SX.evConv, SX.evSlice, SX.bnd, SX.evNil, SX.evUn, SX.evPick, SX.pickOpd, SX.popTo, SX.cnd, SX.env0, SX.TD.isAgg, SX.TD.isIface, SX.tails, SX.NotAgg, SX.evLookup, SX.evConvH, SX.evPtrEq, SX.isCells, SX.thaw, SX.frz, SX.fixB, SX.rootIx, SX.Froz, SX.frzStep, SX.fork, Go.Value.cells, Go.undef, cfg3, devC]
  refine ⟨by (unfold SX.Ob; first | trivial | omega | ((try simp only [SX.inK]); (try simp [SX.den, SX.IsU8, SX.AllP, *]); (try omega))), ?_⟩
  intro a7 w7 hr7' _
  have hR7 := hR6.keep hr7'.keeps (by simp [frameAt, mutB]; omega)
  have hr7 := h6.unbase hr7'
  have z57 : w5.heap.size ≤ w7.heap.size := Nat.le_trans hb6.size hr7'.keeps.size
  refine post_call 10 [.ag [.v (.int .i64 d.cap), .v (.int .i64 d.op), .v (.int .i64 d.ac), .v (.slice ad d.Z.length cp)], .v (.slice adm L.length cpm), .v (.int .i64 1000), .v (.slice adk K.length cpk)] hr7 (by first | exact wanted_none rfl | exact wanted_zero (hr7.env.same rfl rfl rfl rfl) rfl (by simp) | exact wanted_zero (hr7.env.same rfl rfl rfl rfl) rfl (by simp [*])) rfl (callable 10 Try.func10) (Plan_ok w7 _ _ _ d L 1000 K (hL.below hr7.keeps.toBelow) hn hl (hM.below hr7.keeps.toBelow) (by omega) (hK.below hr7.keeps.toBelow) hnK hS) ?_
  rintro e8 w8 ⟨v8, R2, rfl, hR8, hSt2, hb8⟩
  refine ⟨_, rfl, ?_⟩
  have h8 := hr7.ret hb8 32 (.v v8) rfl _ (hr7.all.below hb8) (by simp) rfl
  have hl2 := hSt2.len_le
  rw [show planN R2.length 1000 = R2.length by unfold planN; rw [if_pos (by omega)], List.take_length] at hR8
  obtain ⟨ad2, cp2, rfl⟩ := hR8.slice
  have hR7b := hR7.below hb8
  refine seg cfg3_ok mixed PanicFree.body 1000 [] [] h8.rebase (by first | trivial | exact HpRep.nil | assumption) (by kernel_rfl) fun s_ hs_ => ?_
  simp (maxSteps := 10000000) [SX.vc, SX.stop, SX.contS, SX.contB, SX.contW, SX.contR, SX.contD, SX.sxStep, SX.stepPure, SX.stepNew, SX.stepStore, SX.stepKeep, SX.guardIx, SX.evOp, SX.opd, SX.opds, SX.optOpd, SX.look, SX.putS, SX.gobs, SX.AllP, SX.leave, SX.lookC, SX.lookB, SX.lookT, SX.lookN, SX.findK, SX.evBuiltin, SX.ints, SX.foldI, SX.evBin, SX.evInt, SX.evStr, SX.evEq, SX.arith, SX.evLoad, SX.shapeUp, SX.evFieldAddr, SX.evField, SX.evIndexAddr, SX.evIndex, SX.evFill, SX.evBuild, SX.szs, SX.cellsV, SX.evNew, SX.evStore, SX.spliceL, SX.SV.cells, SX.evConv, SX.evSlice, SX.bnd, SX.evNil, SX.evUn, SX.evPick, SX.pickOpd, SX.popTo, SX.cnd, SX.env0, SX.TD.isAgg, SX.TD.isIface, SX.tails, SX.NotAgg, SX.evLookup, SX.evConvH, SX.evPtrEq, SX.isCells, SX.thaw, SX.frz, SX.fixB, SX.rootIx, SX.Froz, SX.frzStep, SX.fork, Go.Value.cells, Go.undef, cfg3, devC]
  refine ⟨by (unfold SX.Ob; first | trivial | omega | ((try simp only [SX.inK]); (try simp [SX.den, SX.IsU8, SX.AllP, *]); (try omega))), ?_⟩
  intro a9 w9 hr9' _
  have hR9 := hR8.keep hr9'.keeps (by simp [frameAt, mutB]; omega)
  have hR9b := hR7b.keep hr9'.keeps (by simp [frameAt, mutB]; omega)
  have hr9a := h8.unbase hr9'
  have z79 : w7.heap.size ≤ w9.heap.size := Nat.le_trans hb8.size hr9'.keeps.size
  have hL9 := hL.below hr9a.keeps.toBelow
  have hM9 := hM.below hr9a.keeps.toBelow
  have hK9 := hK.below hr9a.keeps.toBelow
  have hr9b := hr9a.see _ (HpAll.imm hr9a.all)
  simp only [List.map_cons, List.map_nil] at hr9b
  have hse : R2 = R1.filter fun x => decide (x ∉ K) := (vicL_filter d L K ▸ hSt2).uniq (hSt1.filter _)
  refine post_loop (SkLoop w9.heap.size _ d R1 K s3 (.slice ad d.Z.length cp) (.slice ad1 R1.length cp1) (.slice adk K.length cpk) (.slice adm L.length cpm) (.slice ad2 R2.length cp2)) R1.length ⟨0, .slice none 0 0, rfl, by omega, OwS.nil, hr9b.rebase.re (by simp [envTo, SX.look]) ⟨⟨hr9b.all.1.1, by simp, by simp⟩, trivial⟩ rfl rfl⟩ ?_
  clear hr hr1 h2 hr3 h4 hr5 h6 hr7' hr7 h8 hr9'
  rintro m a10 w10 ⟨k, vo, rfl, hk, hO, hr10⟩
  have hb10 := hr10.keeps.toBelow
  have z10 : w9.heap.size ≤ w10.heap.size := hr10.keeps.size
  have hwl : ((R1.take k).filter fun x => decide (x ∉ K)).length ≤ 64 := Nat.le_trans (List.length_filter_le _ _) (by simp; omega)
  by_cases hlt : k < R1.length
  · obtain ⟨b, o0, cap, u, fz, hP, hv, hrep⟩ := (hR9b.below hb10).opn hlt
    cases hv
    obtain ⟨x, hx⟩ : ∃ x, nth (0 : Int) R1 k = x := ⟨_, rfl⟩
    have hft := filter_takeD (p := fun x => decide (x ∉ K)) hlt hx
    have hA10 := hr10.all.1
    have h11 := (hr10.top 33 (.sl 1 b o0 0 R1.length cp1 1) rfl (by simp [den])).see [(s3, false, .cells (devC d _) 24), (b, false, .arr o0 R1.length (fun j => intC (nth (0 : Int) R1 j)) 1 u fz)] ⟨⟨hA10.1, by simp, by simp; omega⟩, HpAll.one hrep⟩
    refine seg cfg3_ok mixed PanicFree.body 1000 [true] [] h11.rebase (by first | trivial | exact HpRep.nil | assumption) (by kernel_rfl) fun s_ hs_ => ?_
    simp (maxSteps := 10000000) [SX.vc, SX.stop, SX.contS, SX.contB, SX.contW, SX.contR, SX.contD, SX.sxStep, SX.stepPure, SX.stepNew, SX.stepStore, SX.stepKeep, SX.guardIx, SX.evOp, SX.opd, SX.opds, SX.optOpd, SX.look, SX.putS, SX.gobs, SX.AllP, SX.leave, SX.lookC, SX.lookB, SX.lookT, SX.lookN, SX.findK, SX.evBuiltin, SX.ints, SX.foldI, SX.evBin, SX.evInt, SX.evStr, SX.evEq, SX.arith, SX.evLoad, SX.shapeUp, SX.evFieldAddr, SX.evField, SX.evIndexAddr, SX.evIndex, SX.evFill, SX.evBuild, SX.szs, SX.cellsV, SX.evNew, SX.evStore, SX.spliceL, SX.SV.cells, SX.evConv, SX.evSlice, SX.bnd, SX.evNil, SX.evUn, SX.evPick, SX.pickOpd, SX.popTo, SX.cnd, SX.env0, SX.TD.isAgg, SX.TD.isIface, SX.tails, SX.NotAgg, SX.evLookup, SX.evConvH, SX.evPtrEq, SX.isCells, SX.thaw, SX.frz, SX.fixB, SX.rootIx, SX.Froz, SX.frzStep, SX.fork, Go.Value.cells, Go.undef, cfg3, intC, hx]
    refine ⟨by (unfold SX.Ob; first | trivial | omega | ((try simp only [SX.inK]); (try simp [SX.den, SX.IsU8, SX.AllP, *]); (try omega))), ?_⟩
    intro a12 w12 hr12' _
    have hr12 := h11.unbase hr12'
    have hO12 := hO.keep hr12'.keeps (by simp [frameAt, mutB])
    refine post_call 11 [.v (.slice adk K.length cpk), .v (.int .i64 x)] hr12 (by first | exact wanted_none rfl | exact wanted_zero (hr12.env.same rfl rfl rfl rfl) rfl (by simp) | exact wanted_zero (hr12.env.same rfl rfl rfl rfl) rfl (by simp [*])) rfl (callable 11 Try.func11) (rin_ok w12 _ K x (hK9.below hr12.keeps.toBelow) (by omega)) ?_
    rintro e13 w13 ⟨rfl, hb13⟩
    refine ⟨_, rfl, ?_⟩
    have h13 := hr12.ret hb13 41 (.v (.bool (decide (x ∈ K)))) rfl _ (hr12.all.below hb13) (by simp) rfl
    have hO13 := hO12.below hb13
    by_cases hin : x ∈ K
    · rw [if_neg (by simp [hin]), List.append_nil] at hft
      refine seg cfg3_ok mixed PanicFree.body 1000 [false] [] h13.rebase (by first | trivial | exact HpRep.nil | assumption) (by kernel_rfl) fun s_ hs_ => ?_
      simp (maxSteps := 10000000) [SX.vc, SX.stop, SX.contS, SX.contB, SX.contW, SX.contR, SX.contD, SX.sxStep, SX.stepPure, SX.stepNew, SX.stepStore, SX.stepKeep, SX.guardIx, SX.evOp, SX.opd, SX.opds, SX.optOpd, SX.look, SX.putS, SX.gobs, SX.AllP, SX.leave, SX.lookC, SX.lookB, SX.lookT, SX.lookN, SX.findK, SX.evBuiltin, SX.ints, SX.foldI, SX.evBin, SX.evInt, SX.evStr, SX.evEq, SX.arith, SX.evLoad, SX.shapeUp, SX.evFieldAddr, SX.evField, SX.evIndexAddr, SX.evIndex, SX.evFill, SX.evBuild, SX.szs, SX.cellsV, SX.evNew, SX.evStore, SX.spliceL, SX.SV.cells, SX.evConv, SX.evSlice, SX.bnd, SX.evNil, SX.evUn, SX.evPick, SX.pickOpd, SX.popTo, SX.cnd, SX.env0, SX.TD.isAgg, SX.TD.isIface, SX.tails, SX.NotAgg, SX.evLookup, SX.evConvH, SX.evPtrEq, SX.isCells, SX.thaw, SX.frz, SX.fixB, SX.rootIx, SX.Froz, SX.frzStep, SX.fork, Go.Value.cells, Go.undef, cfg3, hin]
      refine ⟨by (unfold SX.Ob; first | trivial | omega | ((try simp only [SX.inK]); (try simp [SX.den, SX.IsU8, SX.AllP, *]); (try omega))), ?_⟩
      intro a14 w14 hr14' _
      have hr14 := h13.unbase hr14'
      exact post_rnd (R1.length - (k + 1)) (by omega) ⟨k + 1, vo, rfl, by omega, by rw [hft]; exact hO13.keep hr14'.keeps (by simp [frameAt, mutB]), hr14.re (by simp [envTo, SX.look, den]) ⟨⟨hr14.all.1.1, by simp, by simp⟩, trivial⟩ rfl rfl⟩
    · rw [if_pos (by simp [hin])] at hft
      refine seg cfg3_ok mixed PanicFree.body 1000 [true] [] h13.rebase (by first | trivial | exact HpRep.nil | assumption) (by kernel_rfl) fun s_ hs_ => ?_
      simp (maxSteps := 10000000) [SX.vc, SX.stop, SX.contS, SX.contB, SX.contW, SX.contR, SX.contD, SX.sxStep, SX.stepPure, SX.stepNew, SX.stepStore, SX.stepKeep, SX.guardIx, SX.evOp, SX.opd, SX.opds, SX.optOpd, SX.look, SX.putS, SX.gobs, SX.AllP, SX.leave, SX.lookC, SX.lookB, SX.lookT, SX.lookN, SX.findK, SX.evBuiltin, SX.ints, SX.foldI, SX.evBin, SX.evInt, SX.evStr, SX.evEq, SX.arith, SX.evLoad, SX.shapeUp, SX.evFieldAddr, SX.evField, SX.evIndexAddr, SX.evIndex, SX.evFill, SX.evBuild, SX.szs, SX.cellsV, SX.evNew, SX.evStore, SX.spliceL, SX.SV.cells, SX.evConv, SX.evSlice, SX.bnd, SX.evNil, SX.evUn, SX.evPick, SX.pickOpd, SX.popTo, SX.cnd, SX.env0, SX.TD.isAgg, SX.TD.isIface, SX.tails, SX.NotAgg, SX.evLookup, SX.evConvH, SX.evPtrEq, SX.isCells, SX.thaw, SX.frz, SX.fixB, SX.rootIx, SX.Froz, SX.frzStep, SX.fork, Go.Value.cells, Go.undef, cfg3, hin]
      refine ⟨by (unfold SX.Ob; first | trivial | omega | ((try simp only [SX.inK]); (try simp [SX.den, SX.IsU8, SX.AllP, *]); (try omega))), ?_⟩
      intro a14 w14 hr14' _
      have hr14 := h13.unbase hr14'
      have z14 : w9.heap.size ≤ w14.heap.size := hr14.keeps.size
      have hO14 := hO13.keep hr14'.keeps (by simp [frameAt, mutB])
      have hA14 := hr14.all.1
      have k314 : s3 < w9.heap.size := by omega
      refine post_app (C := cfg3) cfg3_ok hr14 (by first | exact wanted_none rfl | exact wanted_zero (hr14.env.same rfl rfl rfl rfl) rfl (by simp)) rfl (by simp) rfl rfl rfl rfl rfl rfl rfl rfl rfl (by decide) (flatI _) (by (try simp only [List.length_append, List.length_cons, List.length_nil, List.length_map, List.length_take]); omega) (fun x hx => Nat.le_trans z14 hx) hO14 (RdS.lit (enc := intC) (sz := 1) (d := (0 : Int)) (x := x) hr14.all.2.2.1.1 (by simp [intC])) [(s3, false, .cells (devC d (.slice ad d.Z.length cp)) 24)] (fun w' B hk hB => ⟨⟨KeepsTo.same hk hA14.1 (fun h => absurd (hB _ h).1 (by omega)), by simp, by simp⟩, trivial⟩) (fun x hx => .inl hx) fun V15 a15 w15 B15 hO15 hB15 hk15 hr15 => ?_
      refine seg cfg3_ok mixed PanicFree.body 1000 [] [] hr15.rebase (by first | trivial | exact HpRep.nil | assumption) (by kernel_rfl) fun s_ hs_ => ?_
      simp (maxSteps := 10000000) [SX.vc, SX.stop, SX.contS, SX.contB, SX.contW, SX.contR, SX.contD, SX.sxStep, SX.stepPure, SX.stepNew, SX.stepStore, SX.stepKeep, SX.guardIx, SX.evOp, SX.opd, SX.opds, SX.optOpd, SX.look, SX.putS, SX.gobs, SX.AllP, SX.leave, SX.lookC, SX.lookB, SX.lookT, SX.lookN, SX.findK, SX.evBuiltin, SX.ints, SX.foldI, SX.evBin, SX.evInt, SX.evStr, SX.evEq, SX.arith, SX.evLoad, SX.shapeUp, SX.evFieldAddr, SX.evField, SX.evIndexAddr, SX.evIndex, SX.evFill, SX.evBuild, SX.szs, SX.cellsV, SX.evNew, SX.evStore, SX.spliceL, SX.SV.cells, SX.evConv, SX.evSlice, SX.bnd, SX.evNil, SX.evUn, SX.evPick, SX.pickOpd, SX.popTo, SX.cnd, SX.env0, SX.TD.isAgg, SX.TD.isIface, SX.tails, SX.NotAgg, SX.evLookup, SX.evConvH, SX.evPtrEq, SX.isCells, SX.thaw, SX.frz, SX.fixB, SX.rootIx, SX.Froz, SX.frzStep, SX.fork, Go.Value.cells, Go.undef, cfg3, devC]
      refine ⟨by (unfold SX.Ob; first | trivial | omega | ((try simp only [SX.inK]); (try simp [SX.den, SX.IsU8, SX.AllP, *]); (try omega))), ?_⟩
      intro a16 w16 hr16' _
      have hr16 := hr15.unbase hr16'
      exact post_rnd (R1.length - (k + 1)) (by omega) ⟨k + 1, V15, rfl, by omega, by rw [hft]; exact hO15.keep hr16'.keeps (by simp [frameAt, mutB]), hr16.re (by simp [envTo, SX.look, den]) ⟨⟨hr16.all.1.1, by simp, by simp⟩, trivial⟩ rfl rfl⟩
  obtain rfl : k = R1.length := by omega
  rw [List.take_length, ← hse] at hO hwl
  refine seg cfg3_ok mixed PanicFree.body 1000 [false] [] hr10.rebase (by first | trivial | exact HpRep.nil | assumption) (by kernel_rfl) fun s_ hs_ => ?_
  simp (maxSteps := 10000000) [SX.vc, SX.stop, SX.contS, SX.contB, SX.contW, SX.contR, SX.contD, SX.sxStep, SX.stepPure, SX.stepNew, SX.stepStore, SX.stepKeep, SX.guardIx, SX.evOp, SX.opd, SX.opds, SX.optOpd, SX.look, SX.putS, SX.gobs, SX.AllP, SX.leave, SX.lookC, SX.lookB, SX.lookT, SX.lookN, SX.findK, SX.evBuiltin, SX.ints, SX.foldI, SX.evBin, SX.evInt, SX.evStr, SX.evEq, SX.arith, SX.evLoad, SX.shapeUp, SX.evFieldAddr, SX.evField, SX.evIndexAddr, SX.evIndex, SX.evFill, SX.evBuild, SX.szs, SX.cellsV, SX.evNew, SX.evStore, SX.spliceL, SX.SV.cells, SX.evConv, SX.evSlice, SX.bnd, SX.evNil, SX.evUn, SX.evPick, SX.pickOpd, SX.popTo, SX.cnd, SX.env0, SX.TD.isAgg, SX.TD.isIface, SX.tails, SX.NotAgg, SX.evLookup, SX.evConvH, SX.evPtrEq, SX.isCells, SX.thaw, SX.frz, SX.fixB, SX.rootIx, SX.Froz, SX.frzStep, SX.fork, Go.Value.cells, Go.undef, cfg3, devC]
  refine ⟨by (unfold SX.Ob; first | trivial | omega | ((try simp only [SX.inK]); (try simp [SX.den, SX.IsU8, SX.AllP, *]); (try omega))), ?_⟩
  intro a12 w12 hr12' _
  have hO12 := hO.keep hr12'.keeps (by simp [frameAt, mutB])
  have hr12 := hr10.unbase hr12'
  refine post_call 12 [.v (.slice ad2 R2.length cp2), .v vo] hr12 (by first | exact wanted_none rfl | exact wanted_zero (hr12.env.same rfl rfl rfl rfl) rfl (by simp) | exact wanted_zero (hr12.env.same rfl rfl rfl rfl) rfl (by simp [*])) rfl (callable 12 Try.func12) (rints_ok w12 _ vo R2 R2 (hR9.below hr12.keeps.toBelow) hO12.rd (by omega)) ?_
  rintro e13 w13 ⟨rfl, hb13⟩
  refine ⟨_, rfl, ?_⟩
  have h13 := hr12.ret hb13 50 (.v (.bool (decide (R2 = R2)))) rfl _ (hr12.all.below hb13) (by simp) rfl
  refine seg cfg3_ok mixed PanicFree.body 1000 [false] [] h13 (by first | trivial | exact HpRep.nil | assumption) (by kernel_rfl) fun s_ hs_ => ?_
  simp (maxSteps := 10000000) [SX.vc, SX.stop, SX.contS, SX.contB, SX.contW, SX.contR, SX.contD, SX.sxStep, SX.stepPure, SX.stepNew, SX.stepStore, SX.stepKeep, SX.guardIx, SX.evOp, SX.opd, SX.opds, SX.optOpd, SX.look, SX.putS, SX.gobs, SX.AllP, SX.leave, SX.lookC, SX.lookB, SX.lookT, SX.lookN, SX.findK, SX.evBuiltin, SX.ints, SX.foldI, SX.evBin, SX.evInt, SX.evStr, SX.evEq, SX.arith, SX.evLoad, SX.shapeUp, SX.evFieldAddr, SX.evField, SX.evIndexAddr, SX.evIndex, SX.evFill, SX.evBuild, SX.szs, SX.cellsV, SX.evNew, SX.evStore, SX.spliceL, SX.SV.cells, SX.evConv, SX.evSlice, SX.bnd, SX.evNil, SX.evUn, SX.evPick, SX.pickOpd, SX.popTo, SX.cnd, SX.env0, SX.TD.isAgg, SX.TD.isIface, SX.tails, SX.NotAgg, SX.evLookup, SX.evConvH, SX.evPtrEq, SX.isCells, SX.thaw, SX.frz, SX.fixB, SX.rootIx, SX.Froz, SX.frzStep, SX.fork, Go.Value.cells, Go.undef, cfg3, devC]
  refine ⟨by (unfold SX.Ob; first | trivial | omega | ((try simp only [SX.inK]); (try simp [SX.den, SX.IsU8, SX.AllP, *]); (try omega))), ?_⟩
  intro a14 w14 hr14 ht14
  have hs14 := hr14.all.1.1
  have k314 : s3 < w14.heap.size := SO.rep_lt hs14
  have hfr : ∀ w', (SO.cells [.v (.int .i64 d.cap), .v (.int .i64 d.op), .v (.int .i64 d.ac), .v (.slice ad d.Z.length cp)] 24).rep w' s3 → HpRep (frz [(s3, false, .cells [.v (.int .i64 d.cap), .v (.int .i64 d.op), .v (.int .i64 d.ac), .v (.slice ad d.Z.length cp)] 24)]) w' := fun w' h i c m o hi => by
    rcases i with _ | i
    · simp [frz] at hi
      obtain ⟨rfl, rfl, rfl⟩ := hi
      exact h
    · simp [frz] at hi
  have z914 : w9.heap.size ≤ w14.heap.size := hr14.keeps.size
  have hK100 : K.length ≤ 100 := by omega
  refine post_appD (enc := intC) (sz := 1) (d := (0 : Int)) (Pb := fun x => w14.heap.size ≤ x) (L := []) (M := K) (C := cfg3) cfg3_ok hr14 rfl rfl rfl (by simp) rfl rfl rfl rfl rfl rfl rfl rfl rfl (by decide) (flatI _) (by simp; omega) (fun x hx => hx) OwS.nil (hK9.below hr14.keeps.toBelow) [(s3, false, .cells [.v (.int .i64 d.cap), .v (.int .i64 d.op), .v (.int .i64 d.ac), .v (.slice ad d.Z.length cp)] 24)] (fun w' B hk hB => ⟨⟨KeepsTo.same hk hs14 (fun h => absurd (hB _ h).1 (by omega)), by simp, by simp⟩, trivial⟩) (fun x hx => .inl (Nat.le_trans z914 hx)) (fun w' B hk hB => hfr w' (KeepsTo.same hk hs14 (fun h => absurd (hB _ h).1 (by omega)))) fun V15 a15 w15 B15 hO15 hB15 hk15 hr15 => ?_
  have hs15 := hr15.all.1.1
  refine post_appD (enc := intC) (sz := 1) (d := (0 : Int)) (Pb := fun x => w14.heap.size ≤ x) (L := [] ++ K) (M := R2) (C := cfg3) cfg3_ok hr15 rfl rfl rfl (by simp) rfl rfl rfl rfl rfl rfl rfl rfl rfl (by decide) (flatI _) (by simp; omega) (fun x hx => Nat.le_trans hk15.size hx) hO15 (hR9.below hr15.keeps.toBelow) [(s3, false, .cells [.v (.int .i64 d.cap), .v (.int .i64 d.op), .v (.int .i64 d.ac), .v (.slice ad d.Z.length cp)] 24)] (fun w' B hk hB => ⟨⟨KeepsTo.same hk hs15 (fun h => absurd (hB _ h).1 (by omega)), by simp, by simp⟩, trivial⟩) (fun x hx => .inl (Nat.le_trans z914 hx)) (fun w' B hk hB => hfr w' (KeepsTo.same hk hs15 (fun h => absurd (hB _ h).1 (by omega)))) fun V16 a16 w16 B16 hO16 hB16 hk16 hr16 => ?_
  have hs16 := hr16.all.1.1
  have hV := Victim_ok w16 (.slice ad d.Z.length cp) (.slice adm L.length cpm) V16 d L ([] ++ K ++ R2) (hL9.below hr16.keeps.toBelow) hn hl (hM9.below hr16.keeps.toBelow) (by omega) hO16.rd (by simp; omega) hS
  refine post_callD3 13 [.ag [.v (.int .i64 d.cap), .v (.int .i64 d.op), .v (.int .i64 d.ac), .v (.slice ad d.Z.length cp)], .v (.slice adm L.length cpm), .v V16] hr16 rfl (wanted_none rfl) rfl (callable 13 Try.func13) hV ?_
  rintro e17 w17 ⟨R3, rfl, hSt3, hb17⟩
  have hnil : vicL d L ([] ++ K ++ R2) = [] := by
    rw [vicL_filter, List.filter_eq_nil_iff]
    intro x hx
    have h1 : x ∈ R1 := hSt1.mem.2 hx
    simp only [List.nil_append, List.mem_append, decide_eq_true_eq, Classical.not_not]
    by_cases hxK : x ∈ K
    · exact .inl hxK
    · exact .inr (by rw [hse]; exact List.mem_filter.2 ⟨h1, by simpa using hxK⟩)
  obtain rfl : R3 = [] := by
    rw [hnil] at hSt3
    exact List.eq_nil_of_length_eq_zero hSt3.1
  refine ⟨_, rfl, hfr w17 (SO.rep_same hs16 (hb17.block _ (SO.rep_lt hs16))), ?_⟩
  have hr17 := hr16.ret hb17 59 (.tu [.v (.int .i64 (nth (0 : Int) [] 0)), .v (.bool (decide (([] : List Int) ≠ [])))]) rfl _ (hr16.all.below hb17) (by simp) rfl
  have ht17 : HpRep [(s3, false, .cells [.v (.int .i64 d.cap), .v (.int .i64 d.op), .v (.int .i64 d.ac), .v (.slice ad d.Z.length cp)] 24)] w17 := fun i c m o hi => by
    rcases i with _ | i
    · simp at hi
      obtain ⟨rfl, rfl, rfl⟩ := hi
      exact hr17.all.1.1
    · simp at hi
  refine seg cfg3_ok mixed PanicFree.body 1000 [] [(63, true)] hr17 (by first | trivial | exact HpRep.nil | assumption) (by kernel_rfl) fun s_ hs_ => ?_
  simp (maxSteps := 10000000) [SX.vc, SX.stop, SX.contS, SX.contB, SX.contW, SX.contR, SX.contD, SX.sxStep, SX.stepPure, SX.stepNew, SX.stepStore, SX.stepKeep, SX.guardIx, SX.evOp, SX.opd, SX.opds, SX.optOpd, SX.look, SX.putS, SX.gobs, SX.AllP, SX.leave, SX.lookC, SX.lookB, SX.lookT, SX.lookN, SX.findK, SX.evBuiltin, SX.ints, SX.foldI, SX.evBin, SX.evInt, SX.evStr, SX.evEq, SX.arith, SX.evLoad, SX.shapeUp, SX.evFieldAddr, SX.evField, SX.evIndexAddr, SX.evIndex, SX.evFill, SX.evBuild, SX.szs, SX.cellsV, SX.evNew, SX.evStore, SX.spliceL, SX.SV.cells, SX.evConv, SX.evSlice, SX.bnd, SX.evNil, SX.evUn, SX.evPick, SX.pickOpd, SX.popTo, SX.cnd, SX.env0, SX.TD.isAgg, SX.TD.isIface, SX.tails, SX.NotAgg, SX.evLookup, SX.evConvH, SX.evPtrEq, SX.isCells, SX.thaw, SX.frz, SX.fixB, SX.rootIx, SX.Froz, SX.frzStep, SX.fork, Go.Value.cells, Go.undef, cfg3]
  refine ⟨by (unfold SX.Ob; first | trivial | omega | ((try simp only [SX.inK]); (try simp [SX.den, SX.IsU8, SX.AllP, *]); (try omega))), ?_⟩
  intro a18 w18 hr18 _
  have hr19 := hr9b.unbase hr18
  exact post_retn (end1 hr19 rfl rfl ⟨rfl, hr19.keeps.toBelow⟩).1
end Go.Proofs
