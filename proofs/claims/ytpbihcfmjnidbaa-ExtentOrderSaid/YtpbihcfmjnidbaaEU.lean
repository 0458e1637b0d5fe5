/- ExtentOrder: extents that do not overlap may be put in any order; put twice they are the same. -/
import Derived.Test.YtpbihcfmjnidbaaERl
namespace Go.Proofs
set_option linter.unusedVariables false
set_option linter.unusedSimpArgs false
open Go Go.SX Go.RowKit

def Uniq (es : List Ext) : Prop := ∀ b t u, Has es b t → Has es b u → t = u
theorem Good.uniq {es : List Ext} (h : Good es) : Uniq es := fun _ _ _ h1 h2 => Has.uniq h.sep h1 h2
theorem has_rev {es : List Ext} {b : Int} {t : Int × Int × Int} : Has es.reverse b t ↔ Has es b t := by
  unfold Has
  simp

theorem PutsTo.has_uniq {L es M : List Ext} (h : PutsTo L es M) (hL : Chk L) (hm : AllMay es) (hu : Uniq es) (b : Int) (t : Int × Int × Int) :
    Has M b t ↔ Has es b t ∨ ((∀ u, ¬ Has es b u) ∧ Has L b t) := by
  rw [h.has hL hm]
  cases hf : es.reverse.find? (hasB b) with
  | none =>
    have hno : ∀ u, ¬ Has es b u := fun u ⟨e, he, hi, _⟩ => by
      rw [List.find?_eq_none] at hf
      have := hf e (by simp [he])
      simp [hasB] at this
      unfold In at hi
      omega
    exact ⟨fun h => .inr ⟨hno, h⟩, fun h => h.elim (fun h => absurd h (hno t)) fun h => h.2⟩
  | some e =>
    have h1 := List.mem_of_find?_eq_some hf
    have h2 := List.find?_some hf
    simp only [hasB, decide_eq_true_eq] at h2
    rw [List.mem_reverse] at h1
    have h3 : Has es b (tell b e) := ⟨e, h1, h2, rfl⟩
    constructor
    · rintro rfl; exact .inl h3
    · rintro (h | ⟨h, _⟩)
      · exact hu b _ _ h h3
      · exact absurd h3 (h _)

theorem order_same {L es A B : List Ext} (hL : Chk L) (hes : Good es) (hA : PutsTo L es A) (hB : PutsTo L es.reverse B) : joinE A = joinE B := by
  have hr : AllMay es.reverse := fun x hx => hes.may x (by simpa using hx)
  have hu : Uniq es.reverse := fun b t u h1 h2 => hes.uniq b t u (has_rev.1 h1) (has_rev.1 h2)
  refine join_norm (hA.good hL hes.may).1 (hB.good hL hr).1 fun b t => ?_
  rw [hA.has_uniq hL hes.may hes.uniq, hB.has_uniq hL hr hu]
  simp only [has_rev]

theorem order_twice {L es A B : List Ext} (hL : Chk L) (hes : Good es) (hA : PutsTo L es A) (hB : PutsTo (joinE A) es B) : joinE A = joinE B := by
  have hAc := (hA.good hL hes.may).1
  obtain ⟨j1, j2, j3⟩ := join_good hAc
  refine join_norm hAc (hB.good j1.chk hes.may).1 fun b t => ?_
  rw [hB.has_uniq j1.chk hes.may hes.uniq, j3, hA.has_uniq hL hes.may hes.uniq]
  constructor
  · rintro (h | ⟨h1, h2⟩)
    · exact .inl h
    · exact .inr ⟨h1, .inr ⟨h1, h2⟩⟩
  · rintro (h | ⟨h1, h2 | ⟨_, h2⟩⟩)
    · exact .inl h
    · exact .inl h2
    · exact .inr ⟨h1, h2⟩

theorem order_part {L es A : List Ext} (hL : Chk L) (hes : Good es) (hA : PutsTo L es A) {p : Ext} (hp : p ∈ es) {i k : Nat} (hP : PartIK (joinE A) p.lba p.n i k) :
    SameP (partL (joinE A) p.lba p.n i k) [p] ∧ (partL (joinE A) p.lba p.n i k).length ≤ A.length := by
  have hAc := (hA.good hL hes.may).1
  obtain ⟨j1, j2, j3⟩ := join_good hAc
  have hpm := hes.may p hp
  have hpf := part_facts j1.chk hpm.blocks hP
  have hpg : Good [p] := ⟨by simpa [AllMay] using hpm, List.pairwise_singleton _ _⟩
  refine ⟨⟨hpf.good.chk, hpg.chk, join_norm hpf.good.chk hpg.chk fun b t => ?_⟩, Nat.le_trans hpf.len (join_len A)⟩
  rw [hpf.has, Has.one, j3, hA.has_uniq hL hes.may hes.uniq]
  have hme : In b p → Has es b (tell b p) := fun h => ⟨p, hp, h, rfl⟩
  constructor
  · rintro ⟨h1, h | ⟨h, _⟩⟩
    · exact ⟨h1, hes.uniq b _ _ (hme h1) h⟩
    · exact absurd (hme h1) (h _)
  · rintro ⟨h1, rfl⟩
    exact ⟨h1, .inl (hme h1)⟩

theorem few_two {w : World} {s : Nat} {v v' : Value} {L M : List Ext} {row : Nat → List SV} (h : (SO.arr 0 2 row 1 22 (0, 0)).rep w s) (h0 : denL (row 0) = [v]) (h1 : denL (row 1) = [v']) (hv : ∃ ad cp, v = .slice ad L.length cp) (hv' : ∃ ad cp, v' = .slice ad M.length cp) :
    Calls Try.prog 9 (denL [.sl 0 s 0 0 2 2 1]).toArray w (FewPost w 2 [L, M]) := by
  refine few_ok w s 2 22 (0, 0) [v, v'] [L, M] (rep_arr_sub h (Nat.le_refl _) fun j hj => ?_) (fun j hj => ?_) (by omega)
  · rcases j with _ | _ | j
    · exact h0
    · exact h1
    · omega
  · rcases j with _ | _ | j
    · exact hv
    · exact hv'
    · omega
theorem allFew_two {L M : List Ext} : AllFew 2 [L, M] ↔ L.length ≤ 300 ∧ M.length ≤ 300 := by
  unfold AllFew
  constructor
  · intro h; exact ⟨h 0 (by omega), h 1 (by omega)⟩
  · rintro ⟨h1, h2⟩ j hj
    rcases j with _ | _ | j
    · exact h1
    · exact h2
    · omega

def TurnLoop (w : World) (v ves : Value) (es : List Ext) (m : Nat) (a : Act) (w' : World) : Prop :=
  ∃ (k : Nat) (v6 : Value), m = es.length - k ∧ k ≤ es.length ∧ OwE (fun x => w.heap.size ≤ x) w' v6 (es.reverse.take k) ∧
    RepX (frame0 w) ⟨[(37, 0, .v (.int .i64 k)), (36, 0, .v (.int .i64 es.length)), (6, 0, .v v6), (1, 0, .v ves), (0, 0, .v v), (5, 0, .v (.bool true))], [], 0, 0, 118, [], [], []⟩ a w'

def OrdLoop (w : World) (ves vx : Value) (es X : List Ext) (m : Nat) (a : Act) (w' : World) : Prop :=
  ∃ k : Nat, m = es.length - k ∧ k ≤ es.length ∧ OwE (fun x => w.heap.size ≤ x) w' vx X ∧
    RepX (frame0 w) ⟨[(94, 0, .v (.int .i64 k)), (93, 0, .v (.int .i64 es.length)), (92, 0, .v ves), (8, 0, .v vx), (5, 0, .v (.bool true))], [], 0, 0, 118, [], [], []⟩ a w'

set_option maxRecDepth 100000 in
set_option maxHeartbeats 16000000 in
theorem order_ok {P P' : Nat → Prop} (w : World) (v ves : Value) (L es : List Ext) (hL : RdE P w v L) (hE : RdE P' w ves es) (hlen : L.length ≤ 1000000000000000) (hlen' : es.length ≤ 1000000000000000) : Calls Try.prog 5 (denL [.v v, .v ves]).toArray w (Ret w (.v (.bool true))) := by
  obtain ⟨ad, cp, rfl⟩ := hL.slice
  obtain ⟨ad', cp', rfl⟩ := hE.slice
  refine enter (F := frame0 w) Try.func5 rfl [.v (.slice ad L.length cp), .v (.slice ad' es.length cp')] [] (by simp [Try.f5]) trivial (keeps0 w) fun a hr => ?_
  refine seg cfg5_ok mixed PanicFree.body 1000 [] [] hr (by first | trivial | exact HpRep.nil | assumption) (by kernel_rfl) fun s_ hs_ => ?_
  simp (maxSteps := 10000000) [SX.vc, SX.stop, SX.contS, SX.contB, SX.contW, SX.contR, SX.contD, SX.sxStep, SX.stepPure, SX.stepNew, SX.stepStore, SX.stepKeep, SX.guardIx, SX.evOp, SX.opd, SX.opds, SX.optOpd, SX.look, SX.putS, SX.gobs, SX.AllP, SX.leave, SX.lookC, SX.lookB, SX.lookT, SX.lookN, SX.findK, SX.evBuiltin, SX.ints, SX.foldI, SX.evBin, SX.evInt, SX.evStr, SX.evEq, SX.arith, SX.evLoad, SX.shapeUp, SX.evFieldAddr, SX.evField, SX.evIndexAddr, SX.evIndex, SX.evFill, SX.evBuild, SX.szs, SX.cellsV, SX.evNew, SX.evStore, SX.spliceL, SX.SV.cells, SX.evConv, SX.evSlice, SX.bnd, SX.evNil, SX.evUn, SX.evPick, SX.pickOpd, SX.popTo, SX.cnd, SX.env0, SX.TD.isAgg, SX.TD.isIface, SX.tails, SX.NotAgg, SX.evLookup, SX.evConvH, SX.evPtrEq, SX.isCells, SX.thaw, SX.frz, SX.fixB, SX.rootIx, SX.Froz, SX.frzStep, SX.fork, Go.Value.cells, Go.undef, cfg5, Try.f5]
  refine ⟨by (unfold SX.Ob; first | trivial | omega | ((try simp only [SX.inK]); (try simp [SX.den, SX.IsU8, SX.AllP, *]); (try omega))), ?_⟩
  intro a1 w1 hr1 _
  refine post_call 8 [] hr1 (by first | exact wanted_none rfl | exact wanted_zero (hr1.env.same rfl rfl rfl rfl) rfl (by simp)) rfl (callable 8 Try.func8) (live_ok w1) ?_
  rintro e2 w2 ⟨rfl, hb2⟩
  refine ⟨_, rfl, ?_⟩
  have h2 := hr1.ret hb2 18 (.v (.bool true)) rfl _ (hr1.all.below hb2) (by simp) rfl
  refine seg cfg5_ok mixed PanicFree.body 1000 [] [] h2 (by first | trivial | exact HpRep.nil | assumption) (by kernel_rfl) fun sF hsF => ?_
  simp (maxSteps := 10000000) [SX.vc, SX.stop, SX.contS, SX.contB, SX.contW, SX.contR, SX.contD, SX.sxStep, SX.stepPure, SX.stepNew, SX.stepStore, SX.stepKeep, SX.guardIx, SX.evOp, SX.opd, SX.opds, SX.optOpd, SX.look, SX.putS, SX.gobs, SX.AllP, SX.leave, SX.lookC, SX.lookB, SX.lookT, SX.lookN, SX.findK, SX.evBuiltin, SX.ints, SX.foldI, SX.evBin, SX.evInt, SX.evStr, SX.evEq, SX.arith, SX.evLoad, SX.shapeUp, SX.evFieldAddr, SX.evField, SX.evIndexAddr, SX.evIndex, SX.evFill, SX.evBuild, SX.szs, SX.cellsV, SX.evNew, SX.evStore, SX.spliceL, SX.SV.cells, SX.evConv, SX.evSlice, SX.bnd, SX.evNil, SX.evUn, SX.evPick, SX.pickOpd, SX.popTo, SX.cnd, SX.env0, SX.TD.isAgg, SX.TD.isIface, SX.tails, SX.NotAgg, SX.evLookup, SX.evConvH, SX.evPtrEq, SX.isCells, SX.thaw, SX.frz, SX.fixB, SX.rootIx, SX.Froz, SX.frzStep, SX.fork, Go.Value.cells, Go.undef, cfg5]
  refine ⟨by (unfold SX.Ob; first | trivial | omega | ((try simp only [SX.inK]); (try simp [SX.den, SX.IsU8, SX.AllP, *]); (try omega))), ?_⟩
  intro a3 w3 hr3 _
  have hF3 : Calls Try.prog 9 (denL [.sl 0 sF 0 0 2 2 1]).toArray w3 (FewPost w3 2 [L, es]) := few_two hr3.all.1.1 rfl rfl ⟨ad, cp, rfl⟩ ⟨ad', cp', rfl⟩
  refine post_call 9 [.sl 0 sF 0 0 2 2 1] hr3 (by first | exact wanted_none rfl | exact wanted_zero (hr3.env.same rfl rfl rfl rfl) rfl (by simp)) rfl (callable 9 Try.func9) (hF3) ?_
  rintro e4 w4 ⟨r4, rfl, hr4, hb4⟩
  refine ⟨_, rfl, ?_⟩
  have h4 := hr3.ret hb4 22 (.v (.bool r4)) rfl _ (hr3.all.below hb4) (by simp) rfl
  rw [allFew_two] at hr4
  rcases r4 with _ | _
  · refine seg cfg5_ok mixed PanicFree.body 1000 [true] [(24, true), (29, true)] h4 (by first | trivial | exact HpRep.nil | assumption) (by kernel_rfl) fun s_ hs_ => ?_
    simp (maxSteps := 10000000) [SX.vc, SX.stop, SX.contS, SX.contB, SX.contW, SX.contR, SX.contD, SX.sxStep, SX.stepPure, SX.stepNew, SX.stepStore, SX.stepKeep, SX.guardIx, SX.evOp, SX.opd, SX.opds, SX.optOpd, SX.look, SX.putS, SX.gobs, SX.AllP, SX.leave, SX.lookC, SX.lookB, SX.lookT, SX.lookN, SX.findK, SX.evBuiltin, SX.ints, SX.foldI, SX.evBin, SX.evInt, SX.evStr, SX.evEq, SX.arith, SX.evLoad, SX.shapeUp, SX.evFieldAddr, SX.evField, SX.evIndexAddr, SX.evIndex, SX.evFill, SX.evBuild, SX.szs, SX.cellsV, SX.evNew, SX.evStore, SX.spliceL, SX.SV.cells, SX.evConv, SX.evSlice, SX.bnd, SX.evNil, SX.evUn, SX.evPick, SX.pickOpd, SX.popTo, SX.cnd, SX.env0, SX.TD.isAgg, SX.TD.isIface, SX.tails, SX.NotAgg, SX.evLookup, SX.evConvH, SX.evPtrEq, SX.isCells, SX.thaw, SX.frz, SX.fixB, SX.rootIx, SX.Froz, SX.frzStep, SX.fork, Go.Value.cells, Go.undef, cfg5]
    refine ⟨by (unfold SX.Ob; first | trivial | omega | ((try simp only [SX.inK]); (try simp [SX.den, SX.IsU8, SX.AllP, *]); (try omega))), ?_⟩
    intro a5 w5 hr5 _
    exact post_retn (end1 hr5 rfl rfl ⟨rfl, hr5.keeps.toBelow⟩).1
  obtain ⟨hn, hn'⟩ := hr4.1 rfl
  have h4' := h4.see [] trivial
  refine seg cfg5_ok mixed PanicFree.body 1000 [] [(24, false), (29, true)] h4' (by first | trivial | exact HpRep.nil | assumption) (by kernel_rfl) fun s_ hs_ => ?_
  simp (maxSteps := 10000000) [SX.vc, SX.stop, SX.contS, SX.contB, SX.contW, SX.contR, SX.contD, SX.sxStep, SX.stepPure, SX.stepNew, SX.stepStore, SX.stepKeep, SX.guardIx, SX.evOp, SX.opd, SX.opds, SX.optOpd, SX.look, SX.putS, SX.gobs, SX.AllP, SX.leave, SX.lookC, SX.lookB, SX.lookT, SX.lookN, SX.findK, SX.evBuiltin, SX.ints, SX.foldI, SX.evBin, SX.evInt, SX.evStr, SX.evEq, SX.arith, SX.evLoad, SX.shapeUp, SX.evFieldAddr, SX.evField, SX.evIndexAddr, SX.evIndex, SX.evFill, SX.evBuild, SX.szs, SX.cellsV, SX.evNew, SX.evStore, SX.spliceL, SX.SV.cells, SX.evConv, SX.evSlice, SX.bnd, SX.evNil, SX.evUn, SX.evPick, SX.pickOpd, SX.popTo, SX.cnd, SX.env0, SX.TD.isAgg, SX.TD.isIface, SX.tails, SX.NotAgg, SX.evLookup, SX.evConvH, SX.evPtrEq, SX.isCells, SX.thaw, SX.frz, SX.fixB, SX.rootIx, SX.Froz, SX.frzStep, SX.fork, Go.Value.cells, Go.undef, cfg5]
  refine ⟨by (unfold SX.Ob; first | trivial | omega | ((try simp only [SX.inK]); (try simp [SX.den, SX.IsU8, SX.AllP, *]); (try omega))), ?_⟩
  intro a5 w5 hr5 _
  refine post_call 10 [.v (.slice ad L.length cp)] hr5 (by first | exact wanted_none rfl | exact wanted_zero (hr5.env.same rfl rfl rfl rfl) rfl (by simp)) rfl (callable 10 Try.func10) (rcheck_ok w5 _ L (hL.below hr5.keeps.toBelow) (by omega)) ?_
  rintro e6 w6 ⟨rfl, hb6⟩
  refine ⟨_, rfl, ?_⟩
  have h6 := hr5.ret hb6 26 (.v (.int .i64 (chkE L))) rfl _ (hr5.all.below hb6) (by simp) rfl
  by_cases hC : Chk L
  rotate_left
  · have hc : chkE L = 1 := if_neg hC
    refine seg cfg5_ok mixed PanicFree.body 1000 [true] [(24, false), (29, true)] h6 (by first | trivial | exact HpRep.nil | assumption) (by kernel_rfl) fun s_ hs_ => ?_
    simp (maxSteps := 10000000) [SX.vc, SX.stop, SX.contS, SX.contB, SX.contW, SX.contR, SX.contD, SX.sxStep, SX.stepPure, SX.stepNew, SX.stepStore, SX.stepKeep, SX.guardIx, SX.evOp, SX.opd, SX.opds, SX.optOpd, SX.look, SX.putS, SX.gobs, SX.AllP, SX.leave, SX.lookC, SX.lookB, SX.lookT, SX.lookN, SX.findK, SX.evBuiltin, SX.ints, SX.foldI, SX.evBin, SX.evInt, SX.evStr, SX.evEq, SX.arith, SX.evLoad, SX.shapeUp, SX.evFieldAddr, SX.evField, SX.evIndexAddr, SX.evIndex, SX.evFill, SX.evBuild, SX.szs, SX.cellsV, SX.evNew, SX.evStore, SX.spliceL, SX.SV.cells, SX.evConv, SX.evSlice, SX.bnd, SX.evNil, SX.evUn, SX.evPick, SX.pickOpd, SX.popTo, SX.cnd, SX.env0, SX.TD.isAgg, SX.TD.isIface, SX.tails, SX.NotAgg, SX.evLookup, SX.evConvH, SX.evPtrEq, SX.isCells, SX.thaw, SX.frz, SX.fixB, SX.rootIx, SX.Froz, SX.frzStep, SX.fork, Go.Value.cells, Go.undef, cfg5, hc]
    refine ⟨by (unfold SX.Ob; first | trivial | omega | ((try simp only [SX.inK]); (try simp [SX.den, SX.IsU8, SX.AllP, *]); (try omega))), ?_⟩
    intro a7 w7 hr7 _
    exact post_retn (end1 hr7 rfl rfl ⟨rfl, hr7.keeps.toBelow⟩).1
  have hc : chkE L = 0 := if_pos hC
  refine seg cfg5_ok mixed PanicFree.body 1000 [] [(24, false), (29, false)] h6 (by first | trivial | exact HpRep.nil | assumption) (by kernel_rfl) fun s_ hs_ => ?_
  simp (maxSteps := 10000000) [SX.vc, SX.stop, SX.contS, SX.contB, SX.contW, SX.contR, SX.contD, SX.sxStep, SX.stepPure, SX.stepNew, SX.stepStore, SX.stepKeep, SX.guardIx, SX.evOp, SX.opd, SX.opds, SX.optOpd, SX.look, SX.putS, SX.gobs, SX.AllP, SX.leave, SX.lookC, SX.lookB, SX.lookT, SX.lookN, SX.findK, SX.evBuiltin, SX.ints, SX.foldI, SX.evBin, SX.evInt, SX.evStr, SX.evEq, SX.arith, SX.evLoad, SX.shapeUp, SX.evFieldAddr, SX.evField, SX.evIndexAddr, SX.evIndex, SX.evFill, SX.evBuild, SX.szs, SX.cellsV, SX.evNew, SX.evStore, SX.spliceL, SX.SV.cells, SX.evConv, SX.evSlice, SX.bnd, SX.evNil, SX.evUn, SX.evPick, SX.pickOpd, SX.popTo, SX.cnd, SX.env0, SX.TD.isAgg, SX.TD.isIface, SX.tails, SX.NotAgg, SX.evLookup, SX.evConvH, SX.evPtrEq, SX.isCells, SX.thaw, SX.frz, SX.fixB, SX.rootIx, SX.Froz, SX.frzStep, SX.fork, Go.Value.cells, Go.undef, cfg5, hc]
  refine ⟨by (unfold SX.Ob; first | trivial | omega | ((try simp only [SX.inK]); (try simp [SX.den, SX.IsU8, SX.AllP, *]); (try omega))), ?_⟩
  intro a7 w7 hr7 _
  refine post_call 10 [.v (.slice ad' es.length cp')] hr7 (by first | exact wanted_none rfl | exact wanted_zero (hr7.env.same rfl rfl rfl rfl) rfl (by simp)) rfl (callable 10 Try.func10) (rcheck_ok w7 _ es (hE.below hr7.keeps.toBelow) (by omega)) ?_
  rintro e8 w8 ⟨rfl, hb8⟩
  refine ⟨_, rfl, ?_⟩
  have h8 := hr7.ret hb8 31 (.v (.int .i64 (chkE es))) rfl _ (hr7.all.below hb8) (by simp) rfl
  by_cases hD : Chk es
  rotate_left
  · have hd : chkE es = 1 := if_neg hD
    refine seg cfg5_ok mixed PanicFree.body 1000 [true] [(24, false), (29, false)] h8 (by first | trivial | exact HpRep.nil | assumption) (by kernel_rfl) fun s_ hs_ => ?_
    simp (maxSteps := 10000000) [SX.vc, SX.stop, SX.contS, SX.contB, SX.contW, SX.contR, SX.contD, SX.sxStep, SX.stepPure, SX.stepNew, SX.stepStore, SX.stepKeep, SX.guardIx, SX.evOp, SX.opd, SX.opds, SX.optOpd, SX.look, SX.putS, SX.gobs, SX.AllP, SX.leave, SX.lookC, SX.lookB, SX.lookT, SX.lookN, SX.findK, SX.evBuiltin, SX.ints, SX.foldI, SX.evBin, SX.evInt, SX.evStr, SX.evEq, SX.arith, SX.evLoad, SX.shapeUp, SX.evFieldAddr, SX.evField, SX.evIndexAddr, SX.evIndex, SX.evFill, SX.evBuild, SX.szs, SX.cellsV, SX.evNew, SX.evStore, SX.spliceL, SX.SV.cells, SX.evConv, SX.evSlice, SX.bnd, SX.evNil, SX.evUn, SX.evPick, SX.pickOpd, SX.popTo, SX.cnd, SX.env0, SX.TD.isAgg, SX.TD.isIface, SX.tails, SX.NotAgg, SX.evLookup, SX.evConvH, SX.evPtrEq, SX.isCells, SX.thaw, SX.frz, SX.fixB, SX.rootIx, SX.Froz, SX.frzStep, SX.fork, Go.Value.cells, Go.undef, cfg5, hd]
    refine ⟨by (unfold SX.Ob; first | trivial | omega | ((try simp only [SX.inK]); (try simp [SX.den, SX.IsU8, SX.AllP, *]); (try omega))), ?_⟩
    intro a9 w9 hr9 _
    exact post_retn (end1 hr9 rfl rfl ⟨rfl, hr9.keeps.toBelow⟩).1
  have hd : chkE es = 0 := if_pos hD
  refine seg cfg5_ok mixed PanicFree.body 1000 [false] [(24, false), (29, false)] h8 (by first | trivial | exact HpRep.nil | assumption) (by kernel_rfl) fun s_ hs_ => ?_
  simp (maxSteps := 10000000) [SX.vc, SX.stop, SX.contS, SX.contB, SX.contW, SX.contR, SX.contD, SX.sxStep, SX.stepPure, SX.stepNew, SX.stepStore, SX.stepKeep, SX.guardIx, SX.evOp, SX.opd, SX.opds, SX.optOpd, SX.look, SX.putS, SX.gobs, SX.AllP, SX.leave, SX.lookC, SX.lookB, SX.lookT, SX.lookN, SX.findK, SX.evBuiltin, SX.ints, SX.foldI, SX.evBin, SX.evInt, SX.evStr, SX.evEq, SX.arith, SX.evLoad, SX.shapeUp, SX.evFieldAddr, SX.evField, SX.evIndexAddr, SX.evIndex, SX.evFill, SX.evBuild, SX.szs, SX.cellsV, SX.evNew, SX.evStore, SX.spliceL, SX.SV.cells, SX.evConv, SX.evSlice, SX.bnd, SX.evNil, SX.evUn, SX.evPick, SX.pickOpd, SX.popTo, SX.cnd, SX.env0, SX.TD.isAgg, SX.TD.isIface, SX.tails, SX.NotAgg, SX.evLookup, SX.evConvH, SX.evPtrEq, SX.isCells, SX.thaw, SX.frz, SX.fixB, SX.rootIx, SX.Froz, SX.frzStep, SX.fork, Go.Value.cells, Go.undef, cfg5, hd]
  refine ⟨by (unfold SX.Ob; first | trivial | omega | ((try simp only [SX.inK]); (try simp [SX.den, SX.IsU8, SX.AllP, *]); (try omega))), ?_⟩
  intro a9 w9 hr9 _
  refine post_loop (TurnLoop w (.slice ad L.length cp) (.slice ad' es.length cp') es) es.length ⟨0, _, rfl, by omega, by simpa using OwS.nil, hr9.re (by simp [envTo, SX.look]) trivial rfl rfl⟩ ?_
  rintro m a10 w10 ⟨k, v6, rfl, hk, hO10, hr10⟩
  by_cases hlt : k < es.length
  · obtain ⟨q, hq⟩ : ∃ q, es.length = k + 1 + q := ⟨es.length - (k + 1), by omega⟩
    obtain ⟨b, o0, cap, u, fz, hP, hv, hrep⟩ := hE.opn (show q < es.length by omega)
    cases hv
    have hrep2 := SO.rep_same hrep (hr10.keeps.toBelow.block _ (SO.rep_lt hrep))
    obtain ⟨x, hx⟩ : ∃ x, nth ext0 es q = x := ⟨_, rfl⟩
    have hqi : ((es.length : Int) - 1 - (k : Int)) = (q : Int) := by omega
    have h11 := (hr10.top 1 (.sl 0 b o0 0 es.length cp' 5) rfl (by simp [den])).see _ (HpAll.one hrep2)
    refine seg cfg5_ok mixed PanicFree.body 1000 [true] [] h11.rebase (by first | trivial | exact HpRep.nil | assumption) (by kernel_rfl) fun s_ hs_ => ?_
    simp (maxSteps := 10000000) [SX.vc, SX.stop, SX.contS, SX.contB, SX.contW, SX.contR, SX.contD, SX.sxStep, SX.stepPure, SX.stepNew, SX.stepStore, SX.stepKeep, SX.guardIx, SX.evOp, SX.opd, SX.opds, SX.optOpd, SX.look, SX.putS, SX.gobs, SX.AllP, SX.leave, SX.lookC, SX.lookB, SX.lookT, SX.lookN, SX.findK, SX.evBuiltin, SX.ints, SX.foldI, SX.evBin, SX.evInt, SX.evStr, SX.evEq, SX.arith, SX.evLoad, SX.shapeUp, SX.evFieldAddr, SX.evField, SX.evIndexAddr, SX.evIndex, SX.evFill, SX.evBuild, SX.szs, SX.cellsV, SX.evNew, SX.evStore, SX.spliceL, SX.SV.cells, SX.evConv, SX.evSlice, SX.bnd, SX.evNil, SX.evUn, SX.evPick, SX.pickOpd, SX.popTo, SX.cnd, SX.env0, SX.TD.isAgg, SX.TD.isIface, SX.tails, SX.NotAgg, SX.evLookup, SX.evConvH, SX.evPtrEq, SX.isCells, SX.thaw, SX.frz, SX.fixB, SX.rootIx, SX.Froz, SX.frzStep, SX.fork, Go.Value.cells, Go.undef, cfg5, extC, hx, hqi]
    refine ⟨by (unfold SX.Ob; first | trivial | omega | ((try simp only [SX.inK]); (try simp [SX.den, SX.IsU8, SX.AllP, *]); (try omega))), ?_⟩
    intro a12 w12 hr12' _
    have hr12 := h11.unbase hr12'
    have z12 : w.heap.size ≤ w12.heap.size := hr12.keeps.size
    have hO12 := hO10.keep hr12'.keeps (by simp [frameAt, mutB])
    refine post_app (C := cfg5) cfg5_ok hr12 (by first | exact wanted_none rfl | exact wanted_zero (hr12.env.same rfl rfl rfl rfl) rfl (by simp)) rfl (by simp) rfl rfl rfl rfl rfl rfl rfl rfl rfl (by decide) (flatE _) (by (try simp only [List.length_append, List.length_cons, List.length_nil, List.length_map, List.length_take]); omega) (fun x hx => Nat.le_trans z12 hx) hO12 (RdS.lit (x := x) hr12.all.2.1.1 (by simp [extC])) [] (fun _ _ _ _ => trivial) (fun x hx => .inl hx) fun V13 a13 w13 B13 hO13 hB13 hk13 hr13 => ?_
    have htk : es.reverse.take k ++ [x] = es.reverse.take (k + 1) := by
      have hkr : k < es.reverse.length := by simpa using hlt
      rw [take_nth (d := ext0) hkr]
      congr 2
      rw [← hx, nth_lt hkr, nth_lt (by omega), List.getElem_reverse]
      congr 1
      omega
    rw [htk] at hO13
    refine seg cfg5_ok mixed PanicFree.body 1000 [] [] hr13.rebase (by first | trivial | exact HpRep.nil | assumption) (by kernel_rfl) fun s_ hs_ => ?_
    simp (maxSteps := 10000000) [SX.vc, SX.stop, SX.contS, SX.contB, SX.contW, SX.contR, SX.contD, SX.sxStep, SX.stepPure, SX.stepNew, SX.stepStore, SX.stepKeep, SX.guardIx, SX.evOp, SX.opd, SX.opds, SX.optOpd, SX.look, SX.putS, SX.gobs, SX.AllP, SX.leave, SX.lookC, SX.lookB, SX.lookT, SX.lookN, SX.findK, SX.evBuiltin, SX.ints, SX.foldI, SX.evBin, SX.evInt, SX.evStr, SX.evEq, SX.arith, SX.evLoad, SX.shapeUp, SX.evFieldAddr, SX.evField, SX.evIndexAddr, SX.evIndex, SX.evFill, SX.evBuild, SX.szs, SX.cellsV, SX.evNew, SX.evStore, SX.spliceL, SX.SV.cells, SX.evConv, SX.evSlice, SX.bnd, SX.evNil, SX.evUn, SX.evPick, SX.pickOpd, SX.popTo, SX.cnd, SX.env0, SX.TD.isAgg, SX.TD.isIface, SX.tails, SX.NotAgg, SX.evLookup, SX.evConvH, SX.evPtrEq, SX.isCells, SX.thaw, SX.frz, SX.fixB, SX.rootIx, SX.Froz, SX.frzStep, SX.fork, Go.Value.cells, Go.undef, cfg5]
    refine ⟨by (unfold SX.Ob; first | trivial | omega | ((try simp only [SX.inK]); (try simp [SX.den, SX.IsU8, SX.AllP, *]); (try omega))), ?_⟩
    intro a14 w14 hr14' _
    have hr14 := hr13.unbase hr14'
    exact post_rnd (es.length - (k + 1)) (by omega) ⟨k + 1, V13, rfl, hlt, hO13.keep hr14'.keeps (by simp [frameAt, mutB]), hr14.re (by simp [envTo, SX.look, den]) trivial rfl rfl⟩
  obtain rfl : k = es.length := by omega
  have htk : es.reverse.take es.length = es.reverse := List.take_of_length_le (by simp)
  rw [htk] at hO10
  refine seg cfg5_ok mixed PanicFree.body 1000 [false] [] hr10.rebase (by first | trivial | exact HpRep.nil | assumption) (by kernel_rfl) fun s_ hs_ => ?_
  simp (maxSteps := 10000000) [SX.vc, SX.stop, SX.contS, SX.contB, SX.contW, SX.contR, SX.contD, SX.sxStep, SX.stepPure, SX.stepNew, SX.stepStore, SX.stepKeep, SX.guardIx, SX.evOp, SX.opd, SX.opds, SX.optOpd, SX.look, SX.putS, SX.gobs, SX.AllP, SX.leave, SX.lookC, SX.lookB, SX.lookT, SX.lookN, SX.findK, SX.evBuiltin, SX.ints, SX.foldI, SX.evBin, SX.evInt, SX.evStr, SX.evEq, SX.arith, SX.evLoad, SX.shapeUp, SX.evFieldAddr, SX.evField, SX.evIndexAddr, SX.evIndex, SX.evFill, SX.evBuild, SX.szs, SX.cellsV, SX.evNew, SX.evStore, SX.spliceL, SX.SV.cells, SX.evConv, SX.evSlice, SX.bnd, SX.evNil, SX.evUn, SX.evPick, SX.pickOpd, SX.popTo, SX.cnd, SX.env0, SX.TD.isAgg, SX.TD.isIface, SX.tails, SX.NotAgg, SX.evLookup, SX.evConvH, SX.evPtrEq, SX.isCells, SX.thaw, SX.frz, SX.fixB, SX.rootIx, SX.Froz, SX.frzStep, SX.fork, Go.Value.cells, Go.undef, cfg5]
  refine ⟨by (unfold SX.Ob; first | trivial | omega | ((try simp only [SX.inK]); (try simp [SX.den, SX.IsU8, SX.AllP, *]); (try omega))), ?_⟩
  intro a11 w11 hr11' _
  have hr11 := hr10.unbase hr11'
  have hT11 := hO10.keep hr11'.keeps (by simp [frameAt, mutB])
  have hG := hD.good
  refine post_call 12 [.v (.slice ad L.length cp), .v (.slice ad' es.length cp')] hr11 (wanted_none rfl) rfl (callable 12 Try.func12) (Put_ok w11 _ _ L es (hL.below hr11.keeps.toBelow) (hE.below hr11.keeps.toBelow) (by omega)) ?_
  rintro e12 w12 (⟨_, _, A, hPA, hAC, hres, hb12⟩ | ⟨hno, _⟩)
  rotate_left
  · exact absurd ⟨hC, hG.may⟩ hno
  have al := (hPA.good hC hG.may).2
  have ajl := join_len A
  obtain ⟨vx, rfl, hX12⟩ : ∃ v', e12 = .returned (den (.tu [.v v', .v (.int .i64 0)])) ∧ OwE (fun x => w11.heap.size ≤ x) w12 v' (joinE A) := by
    rcases hres with ⟨_, h⟩ | ⟨h, _⟩
    · exact h
    · omega
  refine ⟨_, rfl, ?_⟩
  have h12 := hr11.ret hb12 55 (.tu [.v vx, .v (.int .i64 0)]) (v := .tuple #[vx, .int .i64 0]) (by simp [den, denL]) _ (hr11.all.below hb12) (by simp) rfl
  refine seg cfg5_ok mixed PanicFree.body 1000 [] [] h12.rebase (by first | trivial | exact HpRep.nil | assumption) (by kernel_rfl) fun s_ hs_ => ?_
  simp (maxSteps := 10000000) [SX.vc, SX.stop, SX.contS, SX.contB, SX.contW, SX.contR, SX.contD, SX.sxStep, SX.stepPure, SX.stepNew, SX.stepStore, SX.stepKeep, SX.guardIx, SX.evOp, SX.opd, SX.opds, SX.optOpd, SX.look, SX.putS, SX.gobs, SX.AllP, SX.leave, SX.lookC, SX.lookB, SX.lookT, SX.lookN, SX.findK, SX.evBuiltin, SX.ints, SX.foldI, SX.evBin, SX.evInt, SX.evStr, SX.evEq, SX.arith, SX.evLoad, SX.shapeUp, SX.evFieldAddr, SX.evField, SX.evIndexAddr, SX.evIndex, SX.evFill, SX.evBuild, SX.szs, SX.cellsV, SX.evNew, SX.evStore, SX.spliceL, SX.SV.cells, SX.evConv, SX.evSlice, SX.bnd, SX.evNil, SX.evUn, SX.evPick, SX.pickOpd, SX.popTo, SX.cnd, SX.env0, SX.TD.isAgg, SX.TD.isIface, SX.tails, SX.NotAgg, SX.evLookup, SX.evConvH, SX.evPtrEq, SX.isCells, SX.thaw, SX.frz, SX.fixB, SX.rootIx, SX.Froz, SX.frzStep, SX.fork, Go.Value.cells, Go.undef, cfg5]
  refine ⟨by (unfold SX.Ob; first | trivial | omega | ((try simp only [SX.inK]); (try simp [SX.den, SX.IsU8, SX.AllP, *]); (try omega))), ?_⟩
  intro a13 w13 hr13' _
  have hr13 := h12.unbase hr13'
  have hT13 := (hT11.below hb12).keep hr13'.keeps (by simp [frameAt, mutB])
  have hX13 := hX12.keep hr13'.keeps (by simp [frameAt, mutB])
  refine post_call 12 [.v (.slice ad L.length cp), .v v6] hr13 (wanted_none rfl) rfl (callable 12 Try.func12) (Put_ok w13 _ _ L es.reverse (hL.below hr13.keeps.toBelow) hT13.rd (by simp; omega)) ?_
  have hrm : AllMay es.reverse := fun x hx => hG.may x (by simpa using hx)
  rintro e14 w14 (⟨_, _, B, hPB, hBC, hres, hb14⟩ | ⟨hno, _⟩)
  rotate_left
  · exact absurd ⟨hC, hrm⟩ hno
  have bl := (hPB.good hC hrm).2
  rw [List.length_reverse] at bl
  have bjl := join_len B
  obtain ⟨vy, rfl, hY14⟩ : ∃ v', e14 = .returned (den (.tu [.v v', .v (.int .i64 0)])) ∧ OwE (fun x => w13.heap.size ≤ x) w14 v' (joinE B) := by
    rcases hres with ⟨_, h⟩ | ⟨h, _⟩
    · exact h
    · omega
  refine ⟨_, rfl, ?_⟩
  have h14 := hr13.ret hb14 61 (.tu [.v vy, .v (.int .i64 0)]) (v := .tuple #[vy, .int .i64 0]) (by simp [den, denL]) _ (hr13.all.below hb14) (by simp) rfl
  refine seg cfg5_ok mixed PanicFree.body 1000 [] [] h14.rebase (by first | trivial | exact HpRep.nil | assumption) (by kernel_rfl) fun s_ hs_ => ?_
  simp (maxSteps := 10000000) [SX.vc, SX.stop, SX.contS, SX.contB, SX.contW, SX.contR, SX.contD, SX.sxStep, SX.stepPure, SX.stepNew, SX.stepStore, SX.stepKeep, SX.guardIx, SX.evOp, SX.opd, SX.opds, SX.optOpd, SX.look, SX.putS, SX.gobs, SX.AllP, SX.leave, SX.lookC, SX.lookB, SX.lookT, SX.lookN, SX.findK, SX.evBuiltin, SX.ints, SX.foldI, SX.evBin, SX.evInt, SX.evStr, SX.evEq, SX.arith, SX.evLoad, SX.shapeUp, SX.evFieldAddr, SX.evField, SX.evIndexAddr, SX.evIndex, SX.evFill, SX.evBuild, SX.szs, SX.cellsV, SX.evNew, SX.evStore, SX.spliceL, SX.SV.cells, SX.evConv, SX.evSlice, SX.bnd, SX.evNil, SX.evUn, SX.evPick, SX.pickOpd, SX.popTo, SX.cnd, SX.env0, SX.TD.isAgg, SX.TD.isIface, SX.tails, SX.NotAgg, SX.evLookup, SX.evConvH, SX.evPtrEq, SX.isCells, SX.thaw, SX.frz, SX.fixB, SX.rootIx, SX.Froz, SX.frzStep, SX.fork, Go.Value.cells, Go.undef, cfg5]
  refine ⟨by (unfold SX.Ob; first | trivial | omega | ((try simp only [SX.inK]); (try simp [SX.den, SX.IsU8, SX.AllP, *]); (try omega))), ?_⟩
  intro a15 w15 hr15' _
  have hr15 := h14.unbase hr15'
  have hX15 := (hX13.below hb14).keep hr15'.keeps (by simp [frameAt, mutB])
  have hY15 := hY14.keep hr15'.keeps (by simp [frameAt, mutB])
  obtain ⟨j1, j2, j3⟩ := join_good hAC
  refine post_call 12 [.v vx, .v (.slice ad' es.length cp')] hr15 (wanted_none rfl) rfl (callable 12 Try.func12) (Put_ok w15 _ _ (joinE A) es hX15.rd (hE.below hr15.keeps.toBelow) (by omega)) ?_
  rintro e16 w16 (⟨_, _, Z, hPZ, hZC, hres, hb16⟩ | ⟨hno, _⟩)
  rotate_left
  · exact absurd ⟨j1.chk, hG.may⟩ hno
  have zl := (hPZ.good j1.chk hG.may).2
  have zjl := join_len Z
  obtain ⟨vz, rfl, hZ16⟩ : ∃ v', e16 = .returned (den (.tu [.v v', .v (.int .i64 0)])) ∧ OwE (fun x => w15.heap.size ≤ x) w16 v' (joinE Z) := by
    rcases hres with ⟨_, h⟩ | ⟨h, _⟩
    · exact h
    · omega
  refine ⟨_, rfl, ?_⟩
  have h16 := hr15.ret hb16 67 (.tu [.v vz, .v (.int .i64 0)]) (v := .tuple #[vz, .int .i64 0]) (by simp [den, denL]) _ (hr15.all.below hb16) (by simp) rfl
  rw [← order_same hC hG hPA hPB] at hY15
  rw [← order_twice hC hG hPA hPZ] at hZ16
  refine seg cfg5_ok mixed PanicFree.body 1000 [] [(72, false), (76, false), (80, false)] h16.rebase (by first | trivial | exact HpRep.nil | assumption) (by kernel_rfl) fun s_ hs_ => ?_
  simp (maxSteps := 10000000) [SX.vc, SX.stop, SX.contS, SX.contB, SX.contW, SX.contR, SX.contD, SX.sxStep, SX.stepPure, SX.stepNew, SX.stepStore, SX.stepKeep, SX.guardIx, SX.evOp, SX.opd, SX.opds, SX.optOpd, SX.look, SX.putS, SX.gobs, SX.AllP, SX.leave, SX.lookC, SX.lookB, SX.lookT, SX.lookN, SX.findK, SX.evBuiltin, SX.ints, SX.foldI, SX.evBin, SX.evInt, SX.evStr, SX.evEq, SX.arith, SX.evLoad, SX.shapeUp, SX.evFieldAddr, SX.evField, SX.evIndexAddr, SX.evIndex, SX.evFill, SX.evBuild, SX.szs, SX.cellsV, SX.evNew, SX.evStore, SX.spliceL, SX.SV.cells, SX.evConv, SX.evSlice, SX.bnd, SX.evNil, SX.evUn, SX.evPick, SX.pickOpd, SX.popTo, SX.cnd, SX.env0, SX.TD.isAgg, SX.TD.isIface, SX.tails, SX.NotAgg, SX.evLookup, SX.evConvH, SX.evPtrEq, SX.isCells, SX.thaw, SX.frz, SX.fixB, SX.rootIx, SX.Froz, SX.frzStep, SX.fork, Go.Value.cells, Go.undef, cfg5]
  refine ⟨by (unfold SX.Ob; first | trivial | omega | ((try simp only [SX.inK]); (try simp [SX.den, SX.IsU8, SX.AllP, *]); (try omega))), ?_⟩
  intro a17 w17 hr17' _
  have hr17 := h16.unbase hr17'
  have hX17 := (hX15.below hb16).keep hr17'.keeps (by simp [frameAt, mutB])
  have hY17 := (hY15.below hb16).keep hr17'.keeps (by simp [frameAt, mutB])
  have hZ17 := hZ16.keep hr17'.keeps (by simp [frameAt, mutB])
  have hE1 := equal16_ok w17 vx vy _ _ hX17.rd hY17.rd (by omega)
  rw [show decide (joinE A = joinE A) = true by simp] at hE1
  refine post_call 16 [.v vx, .v vy] hr17 (by first | exact wanted_none rfl | exact wanted_zero (hr17.env.same rfl rfl rfl rfl) rfl (by simp)) rfl (callable 16 Try.func16) (hE1) ?_
  rintro e18 w18 ⟨rfl, hb18⟩
  refine ⟨_, rfl, ?_⟩
  have h18 := hr17.ret hb18 83 (.v (.bool true)) rfl _ (hr17.all.below hb18) (by simp) rfl
  refine seg cfg5_ok mixed PanicFree.body 1000 [] [(72, false), (76, false), (80, false), (86, false)] h18.rebase (by first | trivial | exact HpRep.nil | assumption) (by kernel_rfl) fun s_ hs_ => ?_
  simp (maxSteps := 10000000) [SX.vc, SX.stop, SX.contS, SX.contB, SX.contW, SX.contR, SX.contD, SX.sxStep, SX.stepPure, SX.stepNew, SX.stepStore, SX.stepKeep, SX.guardIx, SX.evOp, SX.opd, SX.opds, SX.optOpd, SX.look, SX.putS, SX.gobs, SX.AllP, SX.leave, SX.lookC, SX.lookB, SX.lookT, SX.lookN, SX.findK, SX.evBuiltin, SX.ints, SX.foldI, SX.evBin, SX.evInt, SX.evStr, SX.evEq, SX.arith, SX.evLoad, SX.shapeUp, SX.evFieldAddr, SX.evField, SX.evIndexAddr, SX.evIndex, SX.evFill, SX.evBuild, SX.szs, SX.cellsV, SX.evNew, SX.evStore, SX.spliceL, SX.SV.cells, SX.evConv, SX.evSlice, SX.bnd, SX.evNil, SX.evUn, SX.evPick, SX.pickOpd, SX.popTo, SX.cnd, SX.env0, SX.TD.isAgg, SX.TD.isIface, SX.tails, SX.NotAgg, SX.evLookup, SX.evConvH, SX.evPtrEq, SX.isCells, SX.thaw, SX.frz, SX.fixB, SX.rootIx, SX.Froz, SX.frzStep, SX.fork, Go.Value.cells, Go.undef, cfg5]
  refine ⟨by (unfold SX.Ob; first | trivial | omega | ((try simp only [SX.inK]); (try simp [SX.den, SX.IsU8, SX.AllP, *]); (try omega))), ?_⟩
  intro a19 w19 hr19' _
  have hr19 := h18.unbase hr19'
  have hX19 := (hX17.below hb18).keep hr19'.keeps (by simp [frameAt, mutB])
  have hZ19 := (hZ17.below hb18).keep hr19'.keeps (by simp [frameAt, mutB])
  have hE2 := equal16_ok w19 vx vz _ _ hX19.rd hZ19.rd (by omega)
  rw [show decide (joinE A = joinE A) = true by simp] at hE2
  refine post_call 16 [.v vx, .v vz] hr19 (by first | exact wanted_none rfl | exact wanted_zero (hr19.env.same rfl rfl rfl rfl) rfl (by simp)) rfl (callable 16 Try.func16) (hE2) ?_
  rintro e20 w20 ⟨rfl, hb20⟩
  refine ⟨_, rfl, ?_⟩
  have h20 := hr19.ret hb20 89 (.v (.bool true)) rfl _ (hr19.all.below hb20) (by simp) rfl
  refine seg cfg5_ok mixed PanicFree.body 1000 [false] [(72, false), (76, false), (80, false), (86, false)] h20.rebase (by first | trivial | exact HpRep.nil | assumption) (by kernel_rfl) fun s_ hs_ => ?_
  simp (maxSteps := 10000000) [SX.vc, SX.stop, SX.contS, SX.contB, SX.contW, SX.contR, SX.contD, SX.sxStep, SX.stepPure, SX.stepNew, SX.stepStore, SX.stepKeep, SX.guardIx, SX.evOp, SX.opd, SX.opds, SX.optOpd, SX.look, SX.putS, SX.gobs, SX.AllP, SX.leave, SX.lookC, SX.lookB, SX.lookT, SX.lookN, SX.findK, SX.evBuiltin, SX.ints, SX.foldI, SX.evBin, SX.evInt, SX.evStr, SX.evEq, SX.arith, SX.evLoad, SX.shapeUp, SX.evFieldAddr, SX.evField, SX.evIndexAddr, SX.evIndex, SX.evFill, SX.evBuild, SX.szs, SX.cellsV, SX.evNew, SX.evStore, SX.spliceL, SX.SV.cells, SX.evConv, SX.evSlice, SX.bnd, SX.evNil, SX.evUn, SX.evPick, SX.pickOpd, SX.popTo, SX.cnd, SX.env0, SX.TD.isAgg, SX.TD.isIface, SX.tails, SX.NotAgg, SX.evLookup, SX.evConvH, SX.evPtrEq, SX.isCells, SX.thaw, SX.frz, SX.fixB, SX.rootIx, SX.Froz, SX.frzStep, SX.fork, Go.Value.cells, Go.undef, cfg5]
  refine ⟨by (unfold SX.Ob; first | trivial | omega | ((try simp only [SX.inK]); (try simp [SX.den, SX.IsU8, SX.AllP, *]); (try omega))), ?_⟩
  intro a21 w21 hr21' _
  have hr21 := h20.unbase hr21'
  have z11 : w.heap.size ≤ w11.heap.size := hr11.keeps.size
  have hX21 := ((hX19.below hb20).keep hr21'.keeps (by simp [frameAt, mutB])).mono (P' := fun x => w.heap.size ≤ x) (fun x _ hx => Nat.le_trans z11 hx)
  refine post_loop (OrdLoop w (.slice ad' es.length cp') vx es (joinE A)) es.length ⟨0, rfl, by omega, hX21, hr21.re (by simp [envTo, SX.look]) trivial rfl rfl⟩ ?_
  rintro m a22 w22 ⟨k, rfl, hk, hX22, hr22⟩
  by_cases hlt : k < es.length
  · obtain ⟨b, o0, cap, u, fz, hP, hv, hrep⟩ := hE.opn hlt
    cases hv
    have hrep2 := SO.rep_same hrep (hr22.keeps.toBelow.block _ (SO.rep_lt hrep))
    obtain ⟨x, hx⟩ : ∃ x, nth ext0 es k = x := ⟨_, rfl⟩
    have hxe : x ∈ es := hx ▸ nth_mem hlt
    have hMx := hG.may x hxe
    have h23 := (hr22.top 92 (.sl 0 b o0 0 es.length cp' 5) rfl (by simp [den])).see _ (HpAll.one hrep2)
    refine seg cfg5_ok mixed PanicFree.body 1000 [true] [] h23.rebase (by first | trivial | exact HpRep.nil | assumption) (by kernel_rfl) fun sX hsX => ?_
    simp (maxSteps := 10000000) [SX.vc, SX.stop, SX.contS, SX.contB, SX.contW, SX.contR, SX.contD, SX.sxStep, SX.stepPure, SX.stepNew, SX.stepStore, SX.stepKeep, SX.guardIx, SX.evOp, SX.opd, SX.opds, SX.optOpd, SX.look, SX.putS, SX.gobs, SX.AllP, SX.leave, SX.lookC, SX.lookB, SX.lookT, SX.lookN, SX.findK, SX.evBuiltin, SX.ints, SX.foldI, SX.evBin, SX.evInt, SX.evStr, SX.evEq, SX.arith, SX.evLoad, SX.shapeUp, SX.evFieldAddr, SX.evField, SX.evIndexAddr, SX.evIndex, SX.evFill, SX.evBuild, SX.szs, SX.cellsV, SX.evNew, SX.evStore, SX.spliceL, SX.SV.cells, SX.evConv, SX.evSlice, SX.bnd, SX.evNil, SX.evUn, SX.evPick, SX.pickOpd, SX.popTo, SX.cnd, SX.env0, SX.TD.isAgg, SX.TD.isIface, SX.tails, SX.NotAgg, SX.evLookup, SX.evConvH, SX.evPtrEq, SX.isCells, SX.thaw, SX.frz, SX.fixB, SX.rootIx, SX.Froz, SX.frzStep, SX.fork, Go.Value.cells, Go.undef, cfg5, extC, hx]
    refine ⟨by (unfold SX.Ob; first | trivial | omega | ((try simp only [SX.inK]); (try simp [SX.den, SX.IsU8, SX.AllP, *]); (try omega))), ?_⟩
    intro a24 w24 hr24' _
    have hr24 := h23.unbase hr24'
    have hXc := hX22.mono (P' := fun y => w.heap.size ≤ y ∧ y < w22.heap.size) fun y hy hy' => ⟨hy', hy⟩
    have hX24 := hXc.keep hr24'.keeps (by simp [frameAt, mutB])
    refine post_call 17 [.v vx, .v (.int .i64 x.lba), .v (.int .i64 x.n)] hr24 (wanted_none rfl) rfl (callable 17 Try.func17) (Part_ok w24 vx (joinE A) x.lba x.n hX24.rd (by omega)) ?_
    rintro e25 w25 (⟨_, _, i, k', vq, rfl, hIK, hQ25, hb25⟩ | ⟨hno, _⟩)
    rotate_left
    · exact absurd ⟨j1.chk, hMx.blocks⟩ hno
    obtain ⟨hsame, hql⟩ := order_part hC hG hPA hxe hIK
    refine ⟨_, rfl, ?_⟩
    have h25 := hr24.ret hb25 104 (.tu [.v vq, .v (.int .i64 0)]) (v := .tuple #[vq, .int .i64 0]) (by simp [den, denL]) _ (hr24.all.below hb25) (by simp) rfl
    refine seg cfg5_ok mixed PanicFree.body 1000 [] [(109, false)] h25.rebase (by first | trivial | exact HpRep.nil | assumption) (by kernel_rfl) fun sL hsL => ?_
    simp (maxSteps := 10000000) [SX.vc, SX.stop, SX.contS, SX.contB, SX.contW, SX.contR, SX.contD, SX.sxStep, SX.stepPure, SX.stepNew, SX.stepStore, SX.stepKeep, SX.guardIx, SX.evOp, SX.opd, SX.opds, SX.optOpd, SX.look, SX.putS, SX.gobs, SX.AllP, SX.leave, SX.lookC, SX.lookB, SX.lookT, SX.lookN, SX.findK, SX.evBuiltin, SX.ints, SX.foldI, SX.evBin, SX.evInt, SX.evStr, SX.evEq, SX.arith, SX.evLoad, SX.shapeUp, SX.evFieldAddr, SX.evField, SX.evIndexAddr, SX.evIndex, SX.evFill, SX.evBuild, SX.szs, SX.cellsV, SX.evNew, SX.evStore, SX.spliceL, SX.SV.cells, SX.evConv, SX.evSlice, SX.bnd, SX.evNil, SX.evUn, SX.evPick, SX.pickOpd, SX.popTo, SX.cnd, SX.env0, SX.TD.isAgg, SX.TD.isIface, SX.tails, SX.NotAgg, SX.evLookup, SX.evConvH, SX.evPtrEq, SX.isCells, SX.thaw, SX.frz, SX.fixB, SX.rootIx, SX.Froz, SX.frzStep, SX.fork, Go.Value.cells, Go.undef, cfg5, extC]
    refine ⟨by (unfold SX.Ob; first | trivial | omega | ((try simp only [SX.inK]); (try simp [SX.den, SX.IsU8, SX.AllP, *]); (try omega))), ?_⟩
    intro a26 w26 hr26' _
    have hr26 := h25.unbase hr26'
    have s1 := SO.rep_lt hr24.all.2.1.1
    have z22 : w.heap.size ≤ w22.heap.size := hr22.keeps.size
    have hQ26 := hQ25.keep hr26'.keeps (by
      intro y hy
      simp [frameAt, mutB] at hy
      omega)
    have z24 : w22.heap.size ≤ w24.heap.size := hr24'.keeps.size
    have z25 : w24.heap.size ≤ w25.heap.size := hb25.size
    have hX26 := (hX24.below hb25).keep hr26'.keeps (by
      intro y hy
      simp [frameAt, mutB] at hy
      omega)
    have hS26 : RdE (fun _ => True) w26 (den (.sl 2 sL 0 0 1 1 5)) [x] := (RdS.lit (x := x) hr26.all.2.2.1.1 (by simp [extC])).mono fun _ _ _ => trivial
    have hSm := Same_ok w26 vq (den (.sl 2 sL 0 0 1 1 5)) (partL (joinE A) x.lba x.n i k') [x] hQ26.rd hS26 (by omega) (by simp)
    rw [decide_eq_true hsame] at hSm
    have hSm' : Calls Try.prog 18 (denL [.v vq, .sl 2 sL 0 0 1 1 5]).toArray w26 (Ret w26 (.v (.bool true))) := hSm
    refine post_call 18 [.v vq, .sl 2 sL 0 0 1 1 5] hr26 (by first | exact wanted_none rfl | exact wanted_zero (hr26.env.same rfl rfl rfl rfl) rfl (by simp)) rfl (callable 18 Try.func18) (hSm') ?_
    rintro e27 w27 ⟨rfl, hb27⟩
    refine ⟨_, rfl, ?_⟩
    have h27 := hr26.ret hb27 113 (.v (.bool true)) rfl _ (hr26.all.below hb27) (by simp) rfl
    refine seg cfg5_ok mixed PanicFree.body 1000 [false] [(109, false)] h27.rebase (by first | trivial | exact HpRep.nil | assumption) (by kernel_rfl) fun s_ hs_ => ?_
    simp (maxSteps := 10000000) [SX.vc, SX.stop, SX.contS, SX.contB, SX.contW, SX.contR, SX.contD, SX.sxStep, SX.stepPure, SX.stepNew, SX.stepStore, SX.stepKeep, SX.guardIx, SX.evOp, SX.opd, SX.opds, SX.optOpd, SX.look, SX.putS, SX.gobs, SX.AllP, SX.leave, SX.lookC, SX.lookB, SX.lookT, SX.lookN, SX.findK, SX.evBuiltin, SX.ints, SX.foldI, SX.evBin, SX.evInt, SX.evStr, SX.evEq, SX.arith, SX.evLoad, SX.shapeUp, SX.evFieldAddr, SX.evField, SX.evIndexAddr, SX.evIndex, SX.evFill, SX.evBuild, SX.szs, SX.cellsV, SX.evNew, SX.evStore, SX.spliceL, SX.SV.cells, SX.evConv, SX.evSlice, SX.bnd, SX.evNil, SX.evUn, SX.evPick, SX.pickOpd, SX.popTo, SX.cnd, SX.env0, SX.TD.isAgg, SX.TD.isIface, SX.tails, SX.NotAgg, SX.evLookup, SX.evConvH, SX.evPtrEq, SX.isCells, SX.thaw, SX.frz, SX.fixB, SX.rootIx, SX.Froz, SX.frzStep, SX.fork, Go.Value.cells, Go.undef, cfg5]
    refine ⟨by (unfold SX.Ob; first | trivial | omega | ((try simp only [SX.inK]); (try simp [SX.den, SX.IsU8, SX.AllP, *]); (try omega))), ?_⟩
    intro a28 w28 hr28' _
    have hr28 := h27.unbase hr28'
    have hX28 := ((hX26.below hb27).keep hr28'.keeps (by
      intro y hy
      simp [frameAt, mutB] at hy
      omega)).mono (P' := fun x => w.heap.size ≤ x) fun x _ hx => hx.1
    exact post_rnd (es.length - (k + 1)) (by omega) ⟨k + 1, rfl, hlt, hX28, hr28.re (by simp [envTo, SX.look, den]) trivial rfl rfl⟩
  · obtain rfl : k = es.length := by omega
    refine seg cfg5_ok mixed PanicFree.body 1000 [false] [] hr22 (by first | trivial | exact HpRep.nil | assumption) (by kernel_rfl) fun s_ hs_ => ?_
    simp (maxSteps := 10000000) [SX.vc, SX.stop, SX.contS, SX.contB, SX.contW, SX.contR, SX.contD, SX.sxStep, SX.stepPure, SX.stepNew, SX.stepStore, SX.stepKeep, SX.guardIx, SX.evOp, SX.opd, SX.opds, SX.optOpd, SX.look, SX.putS, SX.gobs, SX.AllP, SX.leave, SX.lookC, SX.lookB, SX.lookT, SX.lookN, SX.findK, SX.evBuiltin, SX.ints, SX.foldI, SX.evBin, SX.evInt, SX.evStr, SX.evEq, SX.arith, SX.evLoad, SX.shapeUp, SX.evFieldAddr, SX.evField, SX.evIndexAddr, SX.evIndex, SX.evFill, SX.evBuild, SX.szs, SX.cellsV, SX.evNew, SX.evStore, SX.spliceL, SX.SV.cells, SX.evConv, SX.evSlice, SX.bnd, SX.evNil, SX.evUn, SX.evPick, SX.pickOpd, SX.popTo, SX.cnd, SX.env0, SX.TD.isAgg, SX.TD.isIface, SX.tails, SX.NotAgg, SX.evLookup, SX.evConvH, SX.evPtrEq, SX.isCells, SX.thaw, SX.frz, SX.fixB, SX.rootIx, SX.Froz, SX.frzStep, SX.fork, Go.Value.cells, Go.undef, cfg5]
    refine ⟨by (unfold SX.Ob; first | trivial | omega | ((try simp only [SX.inK]); (try simp [SX.den, SX.IsU8, SX.AllP, *]); (try omega))), ?_⟩
    intro a23 w23 hr23 _
    exact post_retn (end1 hr23 rfl rfl ⟨rfl, hr23.keeps.toBelow⟩).1
end Go.Proofs
