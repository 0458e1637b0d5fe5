/- E6: texts of this proof, joined. -/
import Derived.Test.YtbhkpmnieopddaaE5
set_option linter.unusedVariables false
set_option linter.unusedSimpArgs false
set_option linter.unusedSectionVars false
namespace Go.Proofs.C8
open Go Go.Proofs Go.SX Go.RowKit Go.Proofs.L6
theorem post_appD {P : Program} {α : Type} {enc : α → List SV} {sz : Nat} {d : α} {Pb : Nat → Prop} {C : Cfg} (htt : TTok P C.tt) {Qe : Exit → Act → World → Prop} {F : Fr} {st : St} {all : Array Oper} {hp0 : Hp} {ix : Nat} {o : Oper} {l : List (Nat × Nat)} {k : List W} {a : Act} {w : World} (hr : RepX F st a w) (hix : all[ix]? = some o) (hw : o.guard = none) {dd : Nat} (hdst : o.dst = some dd) (hdn : dd < st.nt) (hks : st.ks.all (fun r => r.tj != dd) = true)
    {x y : SV} {t t' : TypeId} (he : evApp st o.op = some (x, y, t, t')) {e e' : TypeId} {ti ti' te : TI} (ht : lookT C.tt t = some ti) (hd1 : ti.d = .slice e) (ht' : lookT C.tt t' = some ti') (hd2 : ti'.d = .slice e') (hte : lookT C.tt e = some te) (hz : te.zero.cells.size = sz) (hsz : te.sz = sz) (hby : te.by_ ≠ 0)
    {L M : List α} {Q : Nat → Prop} (hfl : ∀ x ∈ M, ∀ c ∈ enc x, NotAgg (den c)) (hbig : (2 * (L.length + M.length) + 192) * te.by_ ≤ 281474976710656) (hPb : ∀ x, w.heap.size ≤ x → Pb x) (hV : OwS enc sz d Pb w (den x) L) (hS : RdS enc sz d Q w (den y) M)
    (H : Hp) (hH : ∀ w' B, KeepsTo w B w' → (∀ x ∈ B, Pb x ∧ x < w.heap.size) → HpAll F w' H) (hF : ∀ x, Pb x → F.B ≤ x ∨ x ∈ F.M) (hfz : ∀ w' B, KeepsTo w B w' → (∀ x ∈ B, Pb x ∧ x < w.heap.size) → HpRep (frz hp0) w')
    (hk : ∀ V' a' w' B, OwS enc sz d Pb w' V' (L ++ M) → (∀ x ∈ B, Pb x ∧ x < w.heap.size) → KeepsTo w B w' → RepX F { st with env := (dd, 0, .v V') :: st.env, hp := H } a' w' → post P Qe (.opsD all hp0 l :: k) .normal a' w') : post P Qe (.opsD all hp0 ((ix, 3) :: l) :: k) .normal a w := by
  obtain ⟨V', w', B, h1, h2, h3, h4⟩ := app_ow (ty := o.type) hPb ((htt _ _ ht).slice hd1) ((htt _ _ ht').slice hd2) (htt _ _ hte) hz hsz hby hfl hbig hV hS
  have e1 := evApp_sound (P := P) (hr.env.same (st' := st) rfl rfl rfl rfl) he w
  rw [h1] at e1
  simp only [Result.andThen_ok] at e1
  refine post_stepD3 hix (wanted_none hw) e1 (hfz w' B h4 h3) ?_
  rw [hdst]
  exact hk V' _ w' B h2 h3 h4 (hr.retK h4 (fun b hb => hF b (h3 b hb).1) dd (.v V') rfl H (hH w' B h4 h3) hdn hks)
theorem post_callD3 {P : Program} {Q : Exit → Act → World → Prop} {F : Fr} {st : St} {all : Array Oper} {hp0 : Hp} {o : Oper} {i : Nat} {l : List (Nat × Nat)} {k : List W} {a : Act} {w : World} {R : Ending → World → Prop} (g : FuncId) (xs : List SV)
    (hr : RepX F st a w) (hi : all[i]? = some o) (hw : Region.wanted o (yielded all a.tmps) = true) (he : evCall st 0 o.op = some (g, xs)) (hg : Callable P g) (hc : Calls P g (denL xs).toArray w R)
    (hk : ∀ e w', R e w' → ∃ v, e = .returned v ∧ HpRep (frz hp0) w' ∧ post P Q (.opsD all hp0 l :: k) .normal (a.put o.dst v) w') : post P Q (.opsD all hp0 ((i, 3) :: l) :: k) .normal a w := by
  show wpSeqD P all (post P Q k) (HpRep hp0) (HpRep (frz hp0)) ((i, 3) :: l) a w
  simp only [wpSeqD, Nat.reduceBEq, Bool.false_eq_true, if_false, if_true]
  unfold wpOp
  simp only [hi, hw, if_true]
  refine .inl ?_
  have e1 := evCall_sound (P := P) (w := w) (hr.env.same (st' := st) rfl rfl rfl rfl) (c := 0) rfl he hg
  simp only [Oper.wp, e1, Oper.upon]
  refine hc.mono fun e w' hR => ?_
  obtain ⟨v, rfl, h1, h2⟩ := hk e w' hR
  exact ⟨h1, h2⟩
end Go.Proofs.C8
namespace Go.Proofs.C8
open Go Go.Proofs Go.SX Go.RowKit Go.Proofs.L6
theorem zfz {w : World} {D A Z : Nat} {o1 o2 o3 : SO} (h1 : o1.rep w D) (h2 : o2.rep w A) (h3 : o3.rep w Z) : HpRep [(D, true, .any), (A, true, .any), (Z, false, o3)] w := by
  intro i b m o hi
  rcases i with _ | _ | _ | i
  · cases hi; exact SO.rep_lt h1
  · cases hi; exact SO.rep_lt h2
  · cases hi; exact h3
  · simp at hi
theorem wpSeqD_S {P : Program} {all : Array Oper} {Q : Exit → Act → World → Prop} {S S' : World → Prop} : ∀ (n : Nat) (l : List (Nat × Nat)) (T : World → Prop) (a : Act) (w : World), l.length ≤ n → tails l = true → wpSeqD P all Q S T l a w → wpSeqD P all Q S' T l a w
  | _, [], T, a, w, _, _, h => by
    unfold wpSeqD at h ⊢
    exact h
  | 0, _ :: _, T, a, w, hn, _, _ => by simp at hn
  | n + 1, (i, k) :: l, T, a, w, hn, ht, h => by
    simp only [tails, Bool.and_eq_true, decide_eq_true_eq] at ht
    simp only [List.length_cons] at hn
    have h0 : (k == 0) = false := by simp; omega
    have h1 : (k == 1) = false := by simp; omega
    unfold wpSeqD at h ⊢
    simp only [h0, h1, Bool.false_eq_true, if_false] at h ⊢
    by_cases h2 : (k == 2) = true
    · rw [if_pos h2] at h ⊢
      obtain ⟨o, v, e1, e2, e3⟩ := h
      exact ⟨o, v, e1, e2, wpSeqD_S n l T _ _ (by omega) ht.2 e3⟩
    rw [if_neg h2] at h ⊢
    by_cases h3 : (k == 3) = true
    · rw [if_pos h3] at h ⊢
      exact wpOp_mono (fun a' w' h' => ⟨h'.1, wpSeqD_S n l T _ _ (by omega) ht.2 h'.2⟩) h
    rw [if_neg h3] at h ⊢
    by_cases h4 : (k == fork) = true
    · rw [if_pos h4] at h ⊢
      obtain ⟨t1, t2⟩ := tails_take l i ht.2
      exact ⟨wpSeqD_S n _ T _ _ (by simp only [List.length_take]; omega) t1 h.1, wpSeqD_S n _ T _ _ (by simp only [List.length_drop]; omega) t2 h.2⟩
    rw [if_neg h4] at h ⊢
    obtain ⟨o, v, T', e1, e2, e3, e4, e5⟩ := h
    exact ⟨o, v, T', e1, e2, e3, e4, wpSeqD_S n l T' _ _ (by omega) ht.2 e5⟩
theorem post_thin {P : Program} {Q : Exit → Act → World → Prop} {all : Array Oper} {hp0 hp1 : Hp} {l : List (Nat × Nat)} {k : List W} {a : Act} {w : World} (hf : frz hp1 = frz hp0) (ht : tails l = true)
    (h : post P Q (.opsD all hp1 l :: k) .normal a w) : post P Q (.opsD all hp0 l :: k) .normal a w := by
  show wpSeqD P all (post P Q k) (HpRep hp0) (HpRep (frz hp0)) l a w
  rw [← hf]
  exact wpSeqD_S _ l _ a w (Nat.le_refl _) ht h
theorem zfz4 {w : World} {D A Z E : Nat} {o1 o2 o3 o4 : SO} (h1 : o1.rep w D) (h2 : o2.rep w A) (h3 : o3.rep w Z) (h4 : o4.rep w E) : HpRep [(D, true, o1), (A, true, o2), (Z, true, o3), (E, true, o4)] w := by
  intro i b m o hi
  rcases i with _ | _ | _ | _ | i
  · cases hi; exact h1
  · cases hi; exact h2
  · cases hi; exact h3
  · cases hi; exact h4
  · simp at hi
def cfg23m : Cfg := { tt := [(43, ⟨.struct [(0, 41), (1, 3), (2, 29)], 3, 40, .agg #[.int .i64 0, .int .i64 0, .slice none 0 0]⟩), (74, ⟨.struct [(0, 31), (7, 47)], 15, 168, .agg #[.int .i64 0, .int .i64 0, .slice none 0 0, .slice none 0 0, .slice none 0 0, .int .i64 0, .int .i64 0, .int .i64 0, .int .i64 0, .int .i64 0, .int .i64 0, .int .i64 0, .int .i64 0, .int .i64 0, .int .i64 0]⟩), (47, ⟨.struct [(0, 3), (1, 3), (2, 3), (3, 3), (4, 3), (5, 3), (6, 3), (7, 3)], 8, 64, .agg #[.int .i64 0, .int .i64 0, .int .i64 0, .int .i64 0, .int .i64 0, .int .i64 0, .int .i64 0, .int .i64 0]⟩), (3, ⟨.int .i64, 1, 8, .int .i64 0⟩), (31, ⟨.struct [(0, 27), (3, 28), (4, 29), (5, 3), (6, 3)], 7, 104, .agg #[.int .i64 0, .int .i64 0, .slice none 0 0, .slice none 0 0, .slice none 0 0, .int .i64 0, .int .i64 0]⟩), (41, ⟨.int .i64, 1, 8, .int .i64 0⟩), (72, ⟨.ptr 74, 1, 8, .pointer none⟩), (29, ⟨.slice 52, 1, 24, .slice none 0 0⟩), (97, ⟨.func, 1, 8, .nilFunc⟩), (52, ⟨.struct [(0, 3), (1, 3), (2, 3)], 3, 24, .agg #[.int .i64 0, .int .i64 0, .int .i64 0]⟩), (27, ⟨.struct [(0, 3), (1, 3), (2, 25)], 3, 40, .agg #[.int .i64 0, .int .i64 0, .slice none 0 0]⟩), (28, ⟨.slice 50, 1, 24, .slice none 0 0⟩), (25, ⟨.slice 38, 1, 24, .slice none 0 0⟩), (50, ⟨.struct [(0, 3), (1, 3), (2, 3), (3, 3)], 4, 32, .agg #[.int .i64 0, .int .i64 0, .int .i64 0, .int .i64 0]⟩), (38, ⟨.struct [(0, 3), (1, 3), (2, 3), (3, 3)], 4, 32, .agg #[.int .i64 0, .int .i64 0, .int .i64 0, .int .i64 0]⟩)], live := [0, 2, 3, 4, 6, 12, 25, 43, 49], dt := [(2, [(0, 0), (1, 0), (2, 0), (3, 0), (4, 0), (5, 0), (6, 0), (7, 0), (8, 0), (9, 0), (10, 0), (11, 0)]), (6, [(0, 0), (1, 0), (2, 0), (3, 0), (4, 0), (5, 1), (6, 0), (7, 0), (8, 0), (9, 0), (10, 0)]), (9, [(1, 2), (2, 2), (3, 2), (4, 2), (6, 2), (0, 7), (10, 1000000), (5, 3), (4, 1000000), (7, 3), (8, 2), (9, 3), (10, 3), (9, 3), (7, 3), (8, 2), (10, 3), (10, 1000000), (7, 3), (4, 1000000), (5, 3), (8, 2), (9, 3), (10, 3), (9, 3), (5, 3), (8, 2), (10, 3), (9, 3), (4, 1000000), (5, 3), (7, 3), (8, 2), (10, 3), (7, 3), (5, 3), (8, 2), (10, 3)]), (10, [(0, 2), (1, 0), (2, 0), (3, 0), (4, 0), (5, 0), (6, 0), (7, 1), (8, 3), (9, 2), (10, 2), (11, 2), (12, 3)])], nw := true }
theorem cfg23m_ok : TTok Try.prog cfg23m.tt := (TTok.cons tok43 (TTok.cons tok74 (TTok.cons tok47 (TTok.cons tok3 (TTok.cons tok31 (TTok.cons tok41 (TTok.cons tok72 (TTok.cons tok29 (TTok.cons tok97 (TTok.cons tok52 (TTok.cons tok27 (TTok.cons tok28 (TTok.cons tok25 (TTok.cons tok50 (TTok.cons tok38 TTok.nil)))))))))))))))
set_option maxRecDepth 100000 in
set_option maxHeartbeats 64000000 in
theorem zone_ok {QL QS QW : Nat → Prop} (w : World) (D : Nat) (c : Co) (e : Evt) (vL vS vW : Value) (h : Dsk QL QS QW D w c e vL vS vW) (hs : Small c) :
    Calls Try.prog 23 (denL [.ptr 0 D 0]).toArray w (OpR QL QS QW D w e (zoneA c e) (zoneC c e)) := by
  have n1 := hs.n1
  have n3 := hs.n3
  have n4 := hs.n4
  have l1 := hs.l1
  have l2 := hs.l2
  obtain ⟨Bw, hBw, hW⟩ := OwS.only h.W
  have hDw : D < w.heap.size := SO.rep_lt h.rep
  have hDB : ¬ D ∈ Bw := fun hm => h.nW (hBw D hm).1
  have sB : ∀ (P : Nat → Prop), ¬ P D → (∀ x, P x → ¬ QW x) → ∀ x ∈ D :: Bw, ¬ P x := fun P h1 h2 x hx hp => by
    rcases List.mem_cons.1 hx with rfl | hx
    · exact h1 hp
    · exact h2 x hp (hBw x hx).1
  have hnb : ∀ x, w.heap.size ≤ x → ¬ x ∈ Bw := fun x hx hm => by
    have := (hBw x hm).2
    omega
  have hE : HpAll ⟨w, w.heap.size, D :: Bw⟩ w [(D, true, .cells (deskC c e vL vS vW) 74)] := ⟨⟨h.rep, fun _ => .inr (by simp), by simp⟩, trivial⟩
  refine enter (F := ⟨w, w.heap.size, D :: Bw⟩) Try.func23 rfl [.ptr 0 D 0] _ (by simp [Try.f23]) hE (KeepsTo.refl w _) fun a hr => ?_
  by_cases c1 : e.z < 0
  · refine seg cfg23m_ok mixed PanicFree.body 1000 [true] [(15, true)] hr (by first | trivial | exact HpRep.nil | assumption) (by kernel_rfl) fun s_ hs_ => ?_
    simp (maxSteps := 10000000) [SX.vc, SX.stop, SX.contS, SX.contB, SX.contR, SX.contD, SX.sxStep, SX.stepPure, SX.stepNew, SX.stepStore, SX.guardIx, SX.evOp, SX.opd, SX.look, SX.putS, SX.gobs, SX.AllP, SX.leave, SX.lookB, SX.lookT, SX.lookN, SX.evBin, SX.evInt, SX.evLoad, SX.shapeUp, SX.evFieldAddr, SX.cellsV, SX.evNew, SX.evStore, SX.spliceL, SX.SV.cells, SX.evNil, SX.evPick, SX.cnd, SX.env0, SX.TD.isAgg, SX.NotAgg, SX.thaw, Go.Value.cells, Go.undef, cfg23m, Try.f23, deskC, coC, evC, c1]
    refine ⟨by (unfold SX.Ob; first | trivial | omega | ((try simp only [SX.inK]); (try simp [SX.den, SX.IsU8, SX.AllP, *]); (try omega))), ?_⟩
    intro a1 w1 hr1 _
    refine post_call 30 [.v (.int .i64 1)] hr1 (by first | exact wanted_none rfl | exact wanted_zero (hr1.env.same rfl rfl rfl rfl) rfl (by simp) | exact wanted_zero (hr1.env.same rfl rfl rfl rfl) rfl (by simp [*])) rfl (callable 30 Try.func30) (fails_ok _ _) ?_
    rintro e21 w21 ⟨rfl, hb21⟩
    refine ⟨_, rfl, ?_⟩
    have h21 := hr1.ret hb21 24 (.ag (ansC (noA 1) (.slice none 0 0))) rfl _ (hr1.all.below hb21) (by simp) rfl
    refine seg cfg23m_ok mixed PanicFree.body 1000 [] [] h21 (by first | trivial | exact HpRep.nil | assumption) (by kernel_rfl) fun s_ hs_ => ?_
    simp (maxSteps := 10000000) [SX.vc, SX.stop, SX.contS, SX.sxStep, SX.stepPure, SX.stepNew, SX.stepStore, SX.guardIx, SX.evOp, SX.opd, SX.look, SX.putS, SX.AllP, SX.leave, SX.lookT, SX.evNew, SX.evStore, SX.spliceL, SX.SV.cells, SX.NotAgg, cfg23m, ansC, noA]
    refine ⟨by (unfold SX.Ob; first | trivial | omega | ((try simp only [SX.inK]); (try simp [SX.den, SX.IsU8, SX.AllP, *]); (try omega))), ?_⟩
    intro a22 w22 hr22 _
    have hA : zoneA c e = noA 1 := by rw [zoneA, if_pos (.inl c1)]
    exact post_retn (endC1 hr22 rfl rfl rfl tok43 rfl ⟨.slice none 0 0, D :: Bw, by rw [hA]; rfl, by rw [hA]; exact OwS.nil.rd, fun x hx => (by rcases List.mem_cons.1 hx with rfl | hx; exact .inl rfl; exact .inr (.inr (hBw x hx).1)), hr22.keeps, fun h' => absurd ((congrArg Ans.er hA).symm.trans h') (by decide)⟩).1
  by_cases c2 : c.zn ≤ e.z
  · refine seg cfg23m_ok mixed PanicFree.body 1000 [true] [(15, false)] hr (by first | trivial | exact HpRep.nil | assumption) (by kernel_rfl) fun s_ hs_ => ?_
    simp (maxSteps := 10000000) [SX.vc, SX.stop, SX.contS, SX.contB, SX.contR, SX.contD, SX.sxStep, SX.stepPure, SX.stepNew, SX.stepStore, SX.guardIx, SX.evOp, SX.opd, SX.look, SX.putS, SX.gobs, SX.AllP, SX.leave, SX.lookB, SX.lookT, SX.lookN, SX.evBin, SX.evInt, SX.evLoad, SX.shapeUp, SX.evFieldAddr, SX.cellsV, SX.evNew, SX.evStore, SX.spliceL, SX.SV.cells, SX.evNil, SX.evPick, SX.cnd, SX.env0, SX.TD.isAgg, SX.NotAgg, SX.thaw, Go.Value.cells, cfg23m, Try.f23, deskC, coC, evC, c1, c2]
    refine ⟨by (unfold SX.Ob; first | trivial | omega | ((try simp only [SX.inK]); (try simp [SX.den, SX.IsU8, SX.AllP, *]); (try omega))), ?_⟩
    intro a1 w1 hr1 _
    refine post_call 30 [.v (.int .i64 1)] hr1 (by first | exact wanted_none rfl | exact wanted_zero (hr1.env.same rfl rfl rfl rfl) rfl (by simp) | exact wanted_zero (hr1.env.same rfl rfl rfl rfl) rfl (by simp [*])) rfl (callable 30 Try.func30) (fails_ok _ _) ?_
    rintro e21 w21 ⟨rfl, hb21⟩
    refine ⟨_, rfl, ?_⟩
    have h21 := hr1.ret hb21 24 (.ag (ansC (noA 1) (.slice none 0 0))) rfl _ (hr1.all.below hb21) (by simp) rfl
    refine seg cfg23m_ok mixed PanicFree.body 1000 [] [] h21 (by first | trivial | exact HpRep.nil | assumption) (by kernel_rfl) fun s_ hs_ => ?_
    simp (maxSteps := 10000000) [SX.vc, SX.stop, SX.contS, SX.sxStep, SX.stepPure, SX.stepNew, SX.stepStore, SX.guardIx, SX.evOp, SX.opd, SX.look, SX.putS, SX.AllP, SX.leave, SX.lookT, SX.evNew, SX.evStore, SX.spliceL, SX.SV.cells, SX.NotAgg, cfg23m, ansC, noA]
    refine ⟨by (unfold SX.Ob; first | trivial | omega | ((try simp only [SX.inK]); (try simp [SX.den, SX.IsU8, SX.AllP, *]); (try omega))), ?_⟩
    intro a22 w22 hr22 _
    have hA : zoneA c e = noA 1 := by rw [zoneA, if_pos (.inr c2)]
    exact post_retn (endC1 hr22 rfl rfl rfl tok43 rfl ⟨.slice none 0 0, D :: Bw, by rw [hA]; rfl, by rw [hA]; exact OwS.nil.rd, fun x hx => (by rcases List.mem_cons.1 hx with rfl | hx; exact .inl rfl; exact .inr (.inr (hBw x hx).1)), hr22.keeps, fun h' => absurd ((congrArg Ans.er hA).symm.trans h') (by decide)⟩).1
  have c3 : ¬ (e.z < 0 ∨ c.zn ≤ e.z) := by omega
  refine seg cfg23m_ok mixed PanicFree.body 1000 [false] [(15, false)] hr.rebase (by first | trivial | exact HpRep.nil | assumption) (by kernel_rfl) fun sA hsA => ?_
  simp (maxSteps := 10000000) [SX.vc, SX.stop, SX.contS, SX.contB, SX.contR, SX.contD, SX.sxStep, SX.stepPure, SX.stepNew, SX.stepStore, SX.guardIx, SX.evOp, SX.opd, SX.look, SX.putS, SX.gobs, SX.AllP, SX.leave, SX.lookB, SX.lookT, SX.lookN, SX.evBin, SX.evInt, SX.evLoad, SX.shapeUp, SX.evFieldAddr, SX.cellsV, SX.evNew, SX.evStore, SX.spliceL, SX.SV.cells, SX.evNil, SX.evPick, SX.cnd, SX.env0, SX.TD.isAgg, SX.NotAgg, SX.thaw, Go.Value.cells, cfg23m, Try.f23, deskC, coC, evC, c1, c2]
  refine ⟨by (unfold SX.Ob; first | trivial | omega | ((try simp only [SX.inK]); (try simp [SX.den, SX.IsU8, SX.AllP, *]); (try omega))), ?_⟩
  intro a1 w1 hr1' _
  have hr1 := hr.unbase hr1'
  have q1 := hpLt hr1.all
  simp at q1
  have z1 : w.heap.size ≤ w1.heap.size := hr1.keeps.size
  have hW1 := hW.keep hr1'.keeps (by simpa [frameAt, mutB] using hDB)
  refine post_call 44 [.ptr 0 D 0] hr1 (by first | exact wanted_none rfl | exact wanted_zero (hr1.env.same rfl rfl rfl rfl) rfl (by simp) | exact wanted_zero (hr1.env.same rfl rfl rfl rfl) rfl (by simp [*])) rfl (callable 44 Try.func44) (dmem_ok w1 D c e vL vS vW (by simpa [deskC, coC, evC] using hr1.all.1.1) (h.L.rd.keep hr1.keeps (sB _ h.nL h.LW)) (by omega)) ?_
  rintro e2 w2 ⟨rfl, hb2⟩
  refine ⟨_, rfl, ?_⟩
  have h2 := hr1.ret hb2 27 (.v (.bool (decide (memP c e.h)))) rfl _ (hr1.all.below hb2) (by simp) rfl
  have hW2 := hW1.below hb2
  by_cases hm : memP c e.h
  rotate_left
  · have hd : decide (memP c e.h) = false := decide_eq_false hm
    refine seg cfg23m_ok mixed PanicFree.body 1000 [true] [] h2 (by first | trivial | exact HpRep.nil | assumption) (by kernel_rfl) fun s_ hs_ => ?_
    simp (maxSteps := 10000000) [SX.vc, SX.stop, SX.contS, SX.contB, SX.sxStep, SX.stepPure, SX.stepNew, SX.stepStore, SX.guardIx, SX.evOp, SX.opd, SX.look, SX.putS, SX.gobs, SX.AllP, SX.leave, SX.evNew, SX.evStore, SX.evUn, cfg23m, hd]
    refine ⟨by (unfold SX.Ob; first | trivial | omega | ((try simp only [SX.inK]); (try simp [SX.den, SX.IsU8, SX.AllP, *]); (try omega))), ?_⟩
    intro a3 w3 hr3 _
    refine post_call 30 [.v (.int .i64 4)] hr3 (by first | exact wanted_none rfl | exact wanted_zero (hr3.env.same rfl rfl rfl rfl) rfl (by simp) | exact wanted_zero (hr3.env.same rfl rfl rfl rfl) rfl (by simp [*])) rfl (callable 30 Try.func30) (fails_ok _ _) ?_
    rintro e21 w21 ⟨rfl, hb21⟩
    refine ⟨_, rfl, ?_⟩
    have h21 := hr3.ret hb21 29 (.ag (ansC (noA 4) (.slice none 0 0))) rfl _ (hr3.all.below hb21) (by simp) rfl
    refine seg cfg23m_ok mixed PanicFree.body 1000 [] [] h21 (by first | trivial | exact HpRep.nil | assumption) (by kernel_rfl) fun s_ hs_ => ?_
    simp (maxSteps := 10000000) [SX.vc, SX.stop, SX.contS, SX.sxStep, SX.stepPure, SX.stepNew, SX.stepStore, SX.guardIx, SX.evOp, SX.opd, SX.look, SX.putS, SX.AllP, SX.leave, SX.lookT, SX.evNew, SX.evStore, SX.spliceL, SX.SV.cells, SX.NotAgg, cfg23m, ansC, noA]
    refine ⟨by (unfold SX.Ob; first | trivial | omega | ((try simp only [SX.inK]); (try simp [SX.den, SX.IsU8, SX.AllP, *]); (try omega))), ?_⟩
    intro a22 w22 hr22 _
    have hA : zoneA c e = noA 4 := by rw [zoneA, if_neg c3, if_pos hm]
    exact post_retn (endC1 hr22 rfl rfl rfl tok43 rfl ⟨.slice none 0 0, D :: Bw, by rw [hA]; rfl, by rw [hA]; exact OwS.nil.rd, fun x hx => (by rcases List.mem_cons.1 hx with rfl | hx; exact .inl rfl; exact .inr (.inr (hBw x hx).1)), hr22.keeps, fun h' => absurd ((congrArg Ans.er hA).symm.trans h') (by decide)⟩).1
  have hd : decide (memP c e.h) = true := decide_eq_true hm
  refine seg cfg23m_ok mixed PanicFree.body 1000 [false] [] h2.rebase (by first | trivial | exact HpRep.nil | assumption) (by kernel_rfl) fun s_ hs_ => ?_
  simp (maxSteps := 10000000) [SX.vc, SX.stop, SX.contS, SX.contB, SX.contR, SX.contD, SX.sxStep, SX.stepPure, SX.stepNew, SX.stepKeep, SX.guardIx, SX.evOp, SX.opd, SX.look, SX.putS, SX.gobs, SX.AllP, SX.leave, SX.lookT, SX.lookN, SX.evLoad, SX.shapeUp, SX.evFieldAddr, SX.evNew, SX.evNil, SX.evUn, SX.TD.isAgg, SX.thaw, cfg23m, hd]
  refine ⟨by (unfold SX.Ob; first | trivial | omega | ((try simp only [SX.inK]); (try simp [SX.den, SX.IsU8, SX.AllP, *]); (try omega))), ?_⟩
  intro a3 w3 hr3' ht3
  have hr3 := h2.unbase hr3'
  have hW3 := hW2.keep hr3'.keeps (by simp only [mutB]; simp; refine ⟨hDB, ?_⟩; repeat (first | exact hnb _ (by omega) | refine ⟨hnb _ (by omega), ?_⟩))
  refine post_callD 31 [.ag (coC c vL vS vW), .v (.int .i64 e.z)] hr3 rfl (by first | exact wanted_none rfl | exact wanted_zero (hr3.env.same rfl rfl rfl rfl) rfl (by simp) | exact wanted_zero (hr3.env.same rfl rfl rfl rfl) rfl (by simp [*])) rfl (callable 31 Try.func31) (who_ok w3 c vL vS vW e.z (h.L.rd.keep hr3.keeps (sB _ h.nL h.LW)) (by omega)) ?_
  rintro e4 w4 ⟨rfl, hb4⟩
  have ht4 := HpRep_below ht3 hb4
  refine ⟨_, rfl, ht4, ?_⟩
  have hr4 := hr3.ret hb4 36 (.tu [.v (.int .i64 (whoH c e.z)), .v (.int .i64 (whoE c e.z))]) rfl _ (hr3.all.below hb4) (by simp) rfl
  have hW4 := hW3.below hb4
  by_cases hh : whoH c e.z = -1
  rotate_left
  · refine seg cfg23m_ok mixed PanicFree.body 1000 [true] [(41, true)] hr4 (by first | trivial | exact HpRep.nil | assumption) (by kernel_rfl) fun s_ hs_ => ?_
    simp (maxSteps := 10000000) [SX.vc, SX.stop, SX.contS, SX.contB, SX.contD, SX.sxStep, SX.stepPure, SX.stepNew, SX.stepStore, SX.guardIx, SX.evOp, SX.opd, SX.look, SX.putS, SX.gobs, SX.AllP, SX.leave, SX.lookB, SX.evBin, SX.evInt, SX.evNew, SX.evStore, SX.evPick, SX.cnd, Go.undef, cfg23m, hh]
    refine ⟨by (unfold SX.Ob; first | trivial | omega | ((try simp only [SX.inK]); (try simp [SX.den, SX.IsU8, SX.AllP, *]); (try omega))), ?_⟩
    intro a5 w5 hr5 _
    refine post_call 30 [.v (.int .i64 60)] hr5 (by first | exact wanted_none rfl | exact wanted_zero (hr5.env.same rfl rfl rfl rfl) rfl (by simp) | exact wanted_zero (hr5.env.same rfl rfl rfl rfl) rfl (by simp [*])) rfl (callable 30 Try.func30) (fails_ok _ _) ?_
    rintro e21 w21 ⟨rfl, hb21⟩
    refine ⟨_, rfl, ?_⟩
    have h21 := hr5.ret hb21 50 (.ag (ansC (noA 60) (.slice none 0 0))) rfl _ (hr5.all.below hb21) (by simp) rfl
    refine seg cfg23m_ok mixed PanicFree.body 1000 [] [] h21 (by first | trivial | exact HpRep.nil | assumption) (by kernel_rfl) fun s_ hs_ => ?_
    simp (maxSteps := 10000000) [SX.vc, SX.stop, SX.contS, SX.sxStep, SX.stepPure, SX.stepNew, SX.stepStore, SX.guardIx, SX.evOp, SX.opd, SX.look, SX.putS, SX.AllP, SX.leave, SX.lookT, SX.evNew, SX.evStore, SX.spliceL, SX.SV.cells, SX.NotAgg, cfg23m, ansC, noA]
    refine ⟨by (unfold SX.Ob; first | trivial | omega | ((try simp only [SX.inK]); (try simp [SX.den, SX.IsU8, SX.AllP, *]); (try omega))), ?_⟩
    intro a22 w22 hr22 _
    have hA : zoneA c e = noA 60 := by rw [zoneA, if_neg c3, if_neg (by simpa using hm), if_pos (.inl hh)]
    exact post_retn (endC1 hr22 rfl rfl rfl tok43 rfl ⟨.slice none 0 0, D :: Bw, by rw [hA]; rfl, by rw [hA]; exact OwS.nil.rd, fun x hx => (by rcases List.mem_cons.1 hx with rfl | hx; exact .inl rfl; exact .inr (.inr (hBw x hx).1)), hr22.keeps, fun h' => absurd ((congrArg Ans.er hA).symm.trans h') (by decide)⟩).1
  refine seg cfg23m_ok mixed PanicFree.body 1000 [] [(41, false)] hr4.rebase (by first | trivial | exact HpRep.nil | assumption) (by kernel_rfl) fun s_ hs_ => ?_
  simp (maxSteps := 10000000) [SX.vc, SX.stop, SX.contS, SX.contD, SX.sxStep, SX.stepPure, SX.stepNew, SX.stepStore, SX.guardIx, SX.evOp, SX.opd, SX.opds, SX.look, SX.putS, SX.gobs, SX.AllP, SX.leave, SX.lookB, SX.lookT, SX.evBin, SX.evInt, SX.evLoad, SX.shapeUp, SX.evFieldAddr, SX.evNew, SX.evStore, SX.evNil, SX.cnd, SX.TD.isAgg, cfg23m, hh]
  refine ⟨by (unfold SX.Ob; first | trivial | omega | ((try simp only [SX.inK]); (try simp [SX.den, SX.IsU8, SX.AllP, *]); (try omega))), ?_⟩
  intro a5 w5 hr5' _
  have hr5 := hr4.unbase hr5'
  have q5 := hpLt hr5.all
  simp at q5
  have hW5 := hW4.keep hr5'.keeps (by simp only [mutB]; simp; refine ⟨hDB, ?_⟩; repeat (first | exact hnb _ (by omega) | refine ⟨hnb _ (by omega), ?_⟩))
  refine post_call 45 [.v vW, .fn (.func 46) [] [.ptr 2 (sA + 1) 0]] hr5 (by first | exact wanted_none rfl | exact wanted_zero (hr5.env.same rfl rfl rfl rfl) rfl (by simp) | exact wanted_zero (hr5.env.same rfl rfl rfl rfl) rfl (by simp [*])) rfl (callable 45 Try.func45) (cont_ok 46 (callable 46 Try.func46) w5 vW c.W (fun f => decide (f.z = e.z)) (sA + 1) hW5.rd (by omega) (fun w' x hb => zone1_ok w' x (sA + 1) e.z (SO.rep_same hr5.all.2.2.1.1 (hb.block _ q5.2.2)))) ?_
  rintro e6 w6 ⟨rfl, hb6⟩
  refine ⟨_, rfl, ?_⟩
  have h6 := hr5.ret hb6 48 (.v (.bool (c.W.any fun f => decide (f.z = e.z)))) rfl _ (hr5.all.below hb6) (by simp) rfl
  have hW6 := hW5.below hb6
  by_cases hw : (c.W.any fun f => decide (f.z = e.z)) = true
  · refine seg cfg23m_ok mixed PanicFree.body 1000 [true] [(41, false)] h6 (by first | trivial | exact HpRep.nil | assumption) (by kernel_rfl) fun s_ hs_ => ?_
    simp (maxSteps := 10000000) [SX.vc, SX.stop, SX.contS, SX.contB, SX.sxStep, SX.stepPure, SX.stepNew, SX.stepStore, SX.guardIx, SX.evOp, SX.opd, SX.look, SX.putS, SX.gobs, SX.AllP, SX.leave, SX.lookB, SX.evNew, SX.evStore, SX.evPick, cfg23m, hw]
    refine ⟨by (unfold SX.Ob; first | trivial | omega | ((try simp only [SX.inK]); (try simp [SX.den, SX.IsU8, SX.AllP, *]); (try omega))), ?_⟩
    intro a7 w7 hr7 _
    refine post_call 30 [.v (.int .i64 60)] hr7 (by first | exact wanted_none rfl | exact wanted_zero (hr7.env.same rfl rfl rfl rfl) rfl (by simp) | exact wanted_zero (hr7.env.same rfl rfl rfl rfl) rfl (by simp [*])) rfl (callable 30 Try.func30) (fails_ok _ _) ?_
    rintro e21 w21 ⟨rfl, hb21⟩
    refine ⟨_, rfl, ?_⟩
    have h21 := hr7.ret hb21 50 (.ag (ansC (noA 60) (.slice none 0 0))) rfl _ (hr7.all.below hb21) (by simp) rfl
    refine seg cfg23m_ok mixed PanicFree.body 1000 [] [] h21 (by first | trivial | exact HpRep.nil | assumption) (by kernel_rfl) fun s_ hs_ => ?_
    simp (maxSteps := 10000000) [SX.vc, SX.stop, SX.contS, SX.sxStep, SX.stepPure, SX.stepNew, SX.stepStore, SX.guardIx, SX.evOp, SX.opd, SX.look, SX.putS, SX.AllP, SX.leave, SX.lookT, SX.evNew, SX.evStore, SX.spliceL, SX.SV.cells, SX.NotAgg, cfg23m, ansC, noA]
    refine ⟨by (unfold SX.Ob; first | trivial | omega | ((try simp only [SX.inK]); (try simp [SX.den, SX.IsU8, SX.AllP, *]); (try omega))), ?_⟩
    intro a22 w22 hr22 _
    have hA : zoneA c e = noA 60 := by rw [zoneA, if_neg c3, if_neg (by simpa using hm), if_pos (.inr hw)]
    exact post_retn (endC1 hr22 rfl rfl rfl tok43 rfl ⟨.slice none 0 0, D :: Bw, by rw [hA]; rfl, by rw [hA]; exact OwS.nil.rd, fun x hx => (by rcases List.mem_cons.1 hx with rfl | hx; exact .inl rfl; exact .inr (.inr (hBw x hx).1)), hr22.keeps, fun h' => absurd ((congrArg Ans.er hA).symm.trans h') (by decide)⟩).1
  have hw' : (c.W.any fun f => decide (f.z = e.z)) = false := by simpa using hw
  refine seg cfg23m_ok mixed PanicFree.body 1000 [false] [(41, false)] h6.rebase (by first | trivial | exact HpRep.nil | assumption) (by kernel_rfl) fun s_ hs_ => ?_
  simp (maxSteps := 10000000) [SX.vc, SX.stop, SX.contS, SX.contB, SX.contR, SX.contD, SX.sxStep, SX.stepPure, SX.guardIx, SX.evOp, SX.opd, SX.look, SX.putS, SX.gobs, SX.AllP, SX.leave, SX.lookB, SX.lookT, SX.lookN, SX.evLoad, SX.shapeUp, SX.evFieldAddr, SX.evNil, SX.evPick, SX.TD.isAgg, SX.thaw, SX.frz, SX.fixB, SX.rootIx, SX.fork, cfg23m, hw']
  refine ⟨by (unfold SX.Ob; first | trivial | omega | ((try simp only [SX.inK]); (try simp [SX.den, SX.IsU8, SX.AllP, *]); (try omega))), ?_⟩
  intro a7 w7 hr7' ht7
  have hr7 := h6.unbase hr7'
  have hW7 := hW6.keep hr7'.keeps (by simp only [mutB]; simp; refine ⟨hDB, ?_⟩; repeat (first | exact hnb _ (by omega) | refine ⟨hnb _ (by omega), ?_⟩))
  have q7 := hpLt hr7.all
  simp at q7
  have z7 : w.heap.size ≤ w7.heap.size := hr7.keeps.size
  refine post_both ?_ ?_
  · refine seg cfg23m_ok mixed PanicFree.body 1000 [] [] hr7.rebase (by first | trivial | exact HpRep.nil | assumption) (by kernel_rfl) fun sF hsF => ?_
    simp (maxSteps := 10000000) [SX.vc, SX.stop, SX.contS, SX.contD, SX.sxStep, SX.stepPure, SX.guardIx, SX.evOp, SX.opd, SX.look, SX.putS, SX.gobs, SX.AllP, SX.lookT, SX.evLoad, SX.shapeUp, SX.TD.isAgg, SX.tails, SX.frz, SX.Froz, SX.frzStep, SX.fork, cfg23m]
    refine ⟨by (unfold SX.Ob; first | trivial | omega | ((try simp only [SX.inK]); (try simp [SX.den, SX.IsU8, SX.AllP, *]); (try omega))), ?_⟩
    intro a8 w8 hr8' ht8
    have hr8 := hr7.unbase hr8'
    have q8 := hpLt hr8.all
    simp at q8
    have z8 : w7.heap.size ≤ w8.heap.size := hr8'.keeps.size
    have hW8 := hW7.keep hr8'.keeps (by simp only [mutB]; simp; refine ⟨hDB, ?_⟩; repeat (first | exact hnb _ (by omega) | refine ⟨hnb _ (by omega), ?_⟩))
    refine post_both ?_ ?_
    · refine post_callD3 47 [.ptr 0 D 0] hr8 rfl (wanted_none rfl) rfl (callable 47 Try.func47) (next_ok w8 D c e vL vS vW (by simpa [deskC, coC, evC] using hr8.all.1.1) l1 (by omega)) ?_
      rintro e9 w9 ⟨rfl, hk9, hD9⟩
      have hr9 := hr8.retK hk9 (fun z hz => .inr (List.mem_cons.2 (.inl (by simpa using hz)))) 58 (.v (.int .i64 (c.T.last + 1))) rfl _ (HpAll.wr hr8.all hk9 hD9) (by simp) rfl
      have ht9 := zfz hr9.all.1.1 hr9.all.2.1.1 hr9.all.2.2.1.1
      refine ⟨_, rfl, ht9, ?_⟩
      have q9 := hpLt hr9.all
      simp at q9
      have z9 : w8.heap.size ≤ w9.heap.size := hk9.size
      have hW9 := hW8.keep hk9 (nP1 hDB)
      refine seg cfg23m_ok mixed PanicFree.body 1000 [] [] hr9.rebase (by first | trivial | exact HpRep.nil | assumption) (by kernel_rfl) fun sX hsX => ?_
      simp (maxSteps := 10000000) [SX.vc, SX.stop, SX.contS, SX.contR, SX.contD, SX.sxStep, SX.stepPure, SX.stepNew, SX.stepStore, SX.stepKeep, SX.guardIx, SX.evOp, SX.opd, SX.opds, SX.look, SX.putS, SX.gobs, SX.AllP, SX.leave, SX.lookT, SX.lookN, SX.evBuiltin, SX.evLoad, SX.shapeUp, SX.evFieldAddr, SX.evFill, SX.evBuild, SX.szs, SX.cellsV, SX.evNew, SX.evStore, SX.spliceL, SX.SV.cells, SX.evNil, SX.TD.isAgg, SX.tails, SX.NotAgg, SX.thaw, SX.frz, SX.Froz, SX.frzStep, Go.Value.cells, cfg23m, deskC, coC, evC]
      refine ⟨by (unfold SX.Ob; first | trivial | omega | ((try simp only [SX.inK]); (try simp [SX.den, SX.IsU8, SX.AllP, *]); (try omega))), ?_⟩
      intro a20 w20 hr20' ht20
      have hr20 := hr9.unbase hr20'
      have q20 := hpLt hr20.all
      simp at q20
      have z20 : w9.heap.size ≤ w20.heap.size := hr20'.keeps.size
      have hW20 := hW9.keep hr20'.keeps (by simp only [mutB]; simp; refine ⟨hDB, ?_⟩; repeat (first | exact hnb _ (by omega) | refine ⟨hnb _ (by omega), ?_⟩))
      refine post_appD (enc := fenC) (sz := 3) (d := fen0) (Pb := fun x => x ∈ Bw ∨ w20.heap.size ≤ x) (L := c.W) (M := [⟨e.z, e.h, c.T.last + 1⟩]) (C := cfg23m) cfg23m_ok hr20 rfl rfl rfl (by simp) rfl rfl rfl rfl rfl rfl rfl rfl rfl (by decide) (flatF _) (by simp; omega) (fun x hx => .inr hx) (hW20.mono fun x _ hx => .inl hx) (RdS.lit hr20.all.2.2.2.2.1.1 (by simp [fenC])) _ (fun w' B hk hB => HpAll.to hk hr20.all fun x hx hb => (by
          have h1 := (hB _ hb).1.resolve_right (by have := (hB _ hb).2; omega)
          simp only [List.mem_cons, List.not_mem_nil, or_false] at hx
          rcases hx with rfl | rfl | rfl | rfl | rfl
          · exact hDB h1
          all_goals exact hnb _ (by simp only; omega) h1)) (fun x hx => hx.elim (fun h => .inr (List.mem_cons.2 (.inr h))) fun h => .inl (show w.heap.size ≤ x by omega)) (fun _ _ _ _ => HpRep.nil) fun V a21 w21 B hV21 hB21 hk21 hr21 => ?_
      have z21 : w20.heap.size ≤ w21.heap.size := hk21.size
      obtain ⟨adV, cpV, rfl⟩ := hV21.slice
      have ht21 := zfz4 hr21.all.1.1 hr21.all.2.1.1 hr21.all.2.2.1.1 hr21.all.2.2.2.1.1
      refine seg cfg23m_ok mixed PanicFree.body 1000 [] [] hr21.rebase (by first | trivial | exact HpRep.nil | assumption) (by kernel_rfl) fun sY hsY => ?_
      simp (maxSteps := 10000000) [SX.vc, SX.stop, SX.contS, SX.contR, SX.contD, SX.sxStep, SX.stepPure, SX.stepNew, SX.stepStore, SX.stepKeep, SX.guardIx, SX.evOp, SX.opd, SX.opds, SX.look, SX.putS, SX.gobs, SX.AllP, SX.leave, SX.lookT, SX.lookN, SX.evBuiltin, SX.evLoad, SX.shapeUp, SX.evFieldAddr, SX.evFill, SX.evBuild, SX.szs, SX.cellsV, SX.evNew, SX.evStore, SX.spliceL, SX.SV.cells, SX.evNil, SX.TD.isAgg, SX.tails, SX.NotAgg, SX.thaw, SX.frz, SX.Froz, SX.frzStep, Go.Value.cells, cfg23m, deskC, coC, evC]
      refine ⟨by (unfold SX.Ob; first | trivial | omega | ((try simp only [SX.inK]); (try simp [SX.den, SX.IsU8, SX.AllP, *]); (try omega))), ?_⟩
      intro a22 w22 hr22' ht22
      have hr22 := hr21.unbase hr22'
      have hl21 : (c.W ++ [(⟨e.z, e.h, c.T.last + 1⟩ : Fen)]).length = c.W.length + 1 := by simp
      rw [hl21] at hV21
      have hV22 := hV21.keep hr22'.keeps (by simp only [mutB]; simp; refine ⟨⟨hDB, by omega⟩, ?_⟩; repeat (first | exact ⟨hnb _ (by omega), by omega⟩ | refine ⟨⟨hnb _ (by omega), by omega⟩, ?_⟩))
      have hA : zoneA c e = ⟨0, c.T.last + 1, [⟨e.z, e.h, c.T.last + 1⟩]⟩ := by rw [zoneA, if_neg c3, if_neg (by simpa using hm), if_neg (by simp [hh, hw'])]
      exact post_retn (endC1 hr22 rfl rfl rfl tok43 rfl ⟨.slice (some ⟨sY, 0, none⟩) 1 1, D :: Bw, by rw [hA]; rfl, by rw [hA]; exact (RdS.lit hr22.all.2.2.2.2.2.1.1 (by simp [fenC])).mono (fun x _ hx => by subst hx; show w.heap.size ≤ _; omega), fun x hx => (by rcases List.mem_cons.1 hx with rfl | hx; exact .inl rfl; exact .inr (.inr (hBw x hx).1)), hr22.keeps, fun _ => ⟨vL, vS, .slice adV (c.W.length + 1) cpV, hr22.all.1.1, (h.L.rd.keep hr22.keeps (sB _ h.nL h.LW)).mono fun x _ hx => .inl hx, (h.S.keep hr22.keeps (sB _ h.nS h.SW)).mono fun x _ hx => .inl hx, hV22.rd.mono fun x _ hx => hx.elim (fun hx => .inl (hBw x hx).1) fun hx => .inr (show w.heap.size ≤ x by omega)⟩⟩).1
    · refine seg cfg23m_ok mixed PanicFree.body 1000 [] [] hr8.rebase (by first | trivial | exact HpRep.nil | assumption) (by kernel_rfl) fun sG hsG => ?_
      simp (maxSteps := 10000000) [SX.vc, SX.stop, SX.contS, SX.contD, SX.sxStep, SX.stepPure, SX.stepNew, SX.stepStore, SX.guardIx, SX.evOp, SX.putS, SX.AllP, SX.lookT, SX.cellsV, SX.evNew, SX.evStore, SX.tails, SX.frz, SX.Froz, SX.frzStep, SX.fork, Go.Value.cells, cfg23m]
      refine ⟨by (unfold SX.Ob; first | trivial | omega | ((try simp only [SX.inK]); (try simp [SX.den, SX.IsU8, SX.AllP, *]); (try omega))), ?_⟩
      intro a9 w9 hr9' ht9
      have hr9 := hr8.unbase hr9'
      have q9 := hpLt hr9.all
      simp at q9
      have z9 : w8.heap.size ≤ w9.heap.size := hr9'.keeps.size
      have hW9 := hW8.keep hr9'.keeps (by simp only [mutB]; simp; refine ⟨hDB, ?_⟩; repeat (first | exact hnb _ (by omega) | refine ⟨hnb _ (by omega), ?_⟩))
      refine post_callD3 47 [.ptr 0 D 0] hr9 rfl (wanted_none rfl) rfl (callable 47 Try.func47) (next_ok w9 D c e vL vS vW (by simpa [deskC, coC, evC] using hr9.all.1.1) l1 (by omega)) ?_
      rintro e10 w10 ⟨rfl, hk10, hD10⟩
      have hr10 := hr9.retK hk10 (fun z hz => .inr (List.mem_cons.2 (.inl (by simpa using hz)))) 58 (.v (.int .i64 (c.T.last + 1))) rfl _ (HpAll.wr hr9.all hk10 hD10) (by simp) rfl
      have ht10 := zfz hr10.all.1.1 hr10.all.2.1.1 hr10.all.2.2.1.1
      refine ⟨_, rfl, ht10, ?_⟩
      have q10 := hpLt hr10.all
      simp at q10
      have z10 : w9.heap.size ≤ w10.heap.size := hk10.size
      have hW10 := hW9.keep hk10 (nP1 hDB)
      refine seg cfg23m_ok mixed PanicFree.body 1000 [] [] hr10.rebase (by first | trivial | exact HpRep.nil | assumption) (by kernel_rfl) fun sX hsX => ?_
      simp (maxSteps := 10000000) [SX.vc, SX.stop, SX.contS, SX.contR, SX.contD, SX.sxStep, SX.stepPure, SX.stepNew, SX.stepStore, SX.stepKeep, SX.guardIx, SX.evOp, SX.opd, SX.opds, SX.look, SX.putS, SX.gobs, SX.AllP, SX.leave, SX.lookT, SX.lookN, SX.evBuiltin, SX.evLoad, SX.shapeUp, SX.evFieldAddr, SX.evFill, SX.evBuild, SX.szs, SX.cellsV, SX.evNew, SX.evStore, SX.spliceL, SX.SV.cells, SX.evNil, SX.TD.isAgg, SX.tails, SX.NotAgg, SX.thaw, SX.frz, SX.Froz, SX.frzStep, Go.Value.cells, cfg23m, deskC, coC, evC]
      refine ⟨by (unfold SX.Ob; first | trivial | omega | ((try simp only [SX.inK]); (try simp [SX.den, SX.IsU8, SX.AllP, *]); (try omega))), ?_⟩
      intro a20 w20 hr20' ht20
      have hr20 := hr10.unbase hr20'
      have q20 := hpLt hr20.all
      simp at q20
      have z20 : w10.heap.size ≤ w20.heap.size := hr20'.keeps.size
      have hW20 := hW10.keep hr20'.keeps (by simp only [mutB]; simp; refine ⟨hDB, ?_⟩; repeat (first | exact hnb _ (by omega) | refine ⟨hnb _ (by omega), ?_⟩))
      refine post_appD (enc := fenC) (sz := 3) (d := fen0) (Pb := fun x => x ∈ Bw ∨ w20.heap.size ≤ x) (L := c.W) (M := [⟨e.z, e.h, c.T.last + 1⟩]) (C := cfg23m) cfg23m_ok hr20 rfl rfl rfl (by simp) rfl rfl rfl rfl rfl rfl rfl rfl rfl (by decide) (flatF _) (by simp; omega) (fun x hx => .inr hx) (hW20.mono fun x _ hx => .inl hx) (RdS.lit hr20.all.2.2.2.2.1.1 (by simp [fenC])) _ (fun w' B hk hB => HpAll.to hk hr20.all fun x hx hb => (by
          have h1 := (hB _ hb).1.resolve_right (by have := (hB _ hb).2; omega)
          simp only [List.mem_cons, List.not_mem_nil, or_false] at hx
          rcases hx with rfl | rfl | rfl | rfl | rfl
          · exact hDB h1
          all_goals exact hnb _ (by simp only; omega) h1)) (fun x hx => hx.elim (fun h => .inr (List.mem_cons.2 (.inr h))) fun h => .inl (show w.heap.size ≤ x by omega)) (fun _ _ _ _ => HpRep.nil) fun V a21 w21 B hV21 hB21 hk21 hr21 => ?_
      have z21 : w20.heap.size ≤ w21.heap.size := hk21.size
      obtain ⟨adV, cpV, rfl⟩ := hV21.slice
      have ht21 := zfz4 hr21.all.1.1 hr21.all.2.1.1 hr21.all.2.2.1.1 hr21.all.2.2.2.1.1
      refine seg cfg23m_ok mixed PanicFree.body 1000 [] [] hr21.rebase (by first | trivial | exact HpRep.nil | assumption) (by kernel_rfl) fun sY hsY => ?_
      simp (maxSteps := 10000000) [SX.vc, SX.stop, SX.contS, SX.contR, SX.contD, SX.sxStep, SX.stepPure, SX.stepNew, SX.stepStore, SX.stepKeep, SX.guardIx, SX.evOp, SX.opd, SX.opds, SX.look, SX.putS, SX.gobs, SX.AllP, SX.leave, SX.lookT, SX.lookN, SX.evBuiltin, SX.evLoad, SX.shapeUp, SX.evFieldAddr, SX.evFill, SX.evBuild, SX.szs, SX.cellsV, SX.evNew, SX.evStore, SX.spliceL, SX.SV.cells, SX.evNil, SX.TD.isAgg, SX.tails, SX.NotAgg, SX.thaw, SX.frz, SX.Froz, SX.frzStep, Go.Value.cells, cfg23m, deskC, coC, evC]
      refine ⟨by (unfold SX.Ob; first | trivial | omega | ((try simp only [SX.inK]); (try simp [SX.den, SX.IsU8, SX.AllP, *]); (try omega))), ?_⟩
      intro a22 w22 hr22' ht22
      have hr22 := hr21.unbase hr22'
      have hl21 : (c.W ++ [(⟨e.z, e.h, c.T.last + 1⟩ : Fen)]).length = c.W.length + 1 := by simp
      rw [hl21] at hV21
      have hV22 := hV21.keep hr22'.keeps (by simp only [mutB]; simp; refine ⟨⟨hDB, by omega⟩, ?_⟩; repeat (first | exact ⟨hnb _ (by omega), by omega⟩ | refine ⟨⟨hnb _ (by omega), by omega⟩, ?_⟩))
      have hA : zoneA c e = ⟨0, c.T.last + 1, [⟨e.z, e.h, c.T.last + 1⟩]⟩ := by rw [zoneA, if_neg c3, if_neg (by simpa using hm), if_neg (by simp [hh, hw'])]
      exact post_retn (endC1 hr22 rfl rfl rfl tok43 rfl ⟨.slice (some ⟨sY, 0, none⟩) 1 1, D :: Bw, by rw [hA]; rfl, by rw [hA]; exact (RdS.lit hr22.all.2.2.2.2.2.1.1 (by simp [fenC])).mono (fun x _ hx => by subst hx; show w.heap.size ≤ _; omega), fun x hx => (by rcases List.mem_cons.1 hx with rfl | hx; exact .inl rfl; exact .inr (.inr (hBw x hx).1)), hr22.keeps, fun _ => ⟨vL, vS, .slice adV (c.W.length + 1) cpV, hr22.all.1.1, (h.L.rd.keep hr22.keeps (sB _ h.nL h.LW)).mono fun x _ hx => .inl hx, (h.S.keep hr22.keeps (sB _ h.nS h.SW)).mono fun x _ hx => .inl hx, hV22.rd.mono fun x _ hx => hx.elim (fun hx => .inl (hBw x hx).1) fun hx => .inr (show w.heap.size ≤ x by omega)⟩⟩).1
  · refine post_both ?_ ?_
    · refine post_callD3 47 [.ptr 0 D 0] hr7 rfl (wanted_none rfl) rfl (callable 47 Try.func47) (next_ok w7 D c e vL vS vW (by simpa [deskC, coC, evC] using hr7.all.1.1) l1 (by omega)) ?_
      rintro e8 w8 ⟨rfl, hk8, hD8⟩
      have hr8 := hr7.retK hk8 (fun z hz => .inr (List.mem_cons.2 (.inl (by simpa using hz)))) 58 (.v (.int .i64 (c.T.last + 1))) rfl _ (HpAll.wr hr7.all hk8 hD8) (by simp) rfl
      have ht8 := zfz hr8.all.1.1 hr8.all.2.1.1 hr8.all.2.2.1.1
      refine ⟨_, rfl, ht8, ?_⟩
      have q8 := hpLt hr8.all
      simp at q8
      have z8 : w7.heap.size ≤ w8.heap.size := hk8.size
      have hW8 := hW7.keep hk8 (nP1 hDB)
      refine post_thin (hp1 := [(D, true, .any), (sA, true, .any), (sA + 1, false, .cells [.v (.int .i64 e.z)] 3)]) rfl rfl ?_
      refine post_both ?_ ?_
      · refine seg cfg23m_ok mixed PanicFree.body 1000 [] [] hr8.rebase (by first | trivial | exact HpRep.nil | assumption) (by kernel_rfl) fun sX hsX => ?_
        simp (maxSteps := 10000000) [SX.vc, SX.stop, SX.contS, SX.contR, SX.contD, SX.sxStep, SX.stepPure, SX.stepNew, SX.stepStore, SX.stepKeep, SX.guardIx, SX.evOp, SX.opd, SX.opds, SX.look, SX.putS, SX.gobs, SX.AllP, SX.leave, SX.lookT, SX.lookN, SX.evBuiltin, SX.evLoad, SX.shapeUp, SX.evFieldAddr, SX.evFill, SX.evBuild, SX.szs, SX.cellsV, SX.evNew, SX.evStore, SX.spliceL, SX.SV.cells, SX.evNil, SX.TD.isAgg, SX.tails, SX.NotAgg, SX.thaw, SX.frz, SX.Froz, SX.frzStep, Go.Value.cells, cfg23m, deskC, coC, evC]
        refine ⟨by (unfold SX.Ob; first | trivial | omega | ((try simp only [SX.inK]); (try simp [SX.den, SX.IsU8, SX.AllP, *]); (try omega))), ?_⟩
        intro a20 w20 hr20' ht20
        have hr20 := hr8.unbase hr20'
        have q20 := hpLt hr20.all
        simp at q20
        have z20 : w8.heap.size ≤ w20.heap.size := hr20'.keeps.size
        have hW20 := hW8.keep hr20'.keeps (by simp only [mutB]; simp; refine ⟨hDB, ?_⟩; repeat (first | exact hnb _ (by omega) | refine ⟨hnb _ (by omega), ?_⟩))
        refine post_appD (enc := fenC) (sz := 3) (d := fen0) (Pb := fun x => x ∈ Bw ∨ w20.heap.size ≤ x) (L := c.W) (M := [⟨e.z, e.h, c.T.last + 1⟩]) (C := cfg23m) cfg23m_ok hr20 rfl rfl rfl (by simp) rfl rfl rfl rfl rfl rfl rfl rfl rfl (by decide) (flatF _) (by simp; omega) (fun x hx => .inr hx) (hW20.mono fun x _ hx => .inl hx) (RdS.lit hr20.all.2.2.2.2.1.1 (by simp [fenC])) _ (fun w' B hk hB => HpAll.to hk hr20.all fun x hx hb => (by
            have h1 := (hB _ hb).1.resolve_right (by have := (hB _ hb).2; omega)
            simp only [List.mem_cons, List.not_mem_nil, or_false] at hx
            rcases hx with rfl | rfl | rfl | rfl | rfl
            · exact hDB h1
            all_goals exact hnb _ (by simp only; omega) h1)) (fun x hx => hx.elim (fun h => .inr (List.mem_cons.2 (.inr h))) fun h => .inl (show w.heap.size ≤ x by omega)) (fun _ _ _ _ => HpRep.nil) fun V a21 w21 B hV21 hB21 hk21 hr21 => ?_
        have z21 : w20.heap.size ≤ w21.heap.size := hk21.size
        obtain ⟨adV, cpV, rfl⟩ := hV21.slice
        have ht21 := zfz4 hr21.all.1.1 hr21.all.2.1.1 hr21.all.2.2.1.1 hr21.all.2.2.2.1.1
        refine seg cfg23m_ok mixed PanicFree.body 1000 [] [] hr21.rebase (by first | trivial | exact HpRep.nil | assumption) (by kernel_rfl) fun sY hsY => ?_
        simp (maxSteps := 10000000) [SX.vc, SX.stop, SX.contS, SX.contR, SX.contD, SX.sxStep, SX.stepPure, SX.stepNew, SX.stepStore, SX.stepKeep, SX.guardIx, SX.evOp, SX.opd, SX.opds, SX.look, SX.putS, SX.gobs, SX.AllP, SX.leave, SX.lookT, SX.lookN, SX.evBuiltin, SX.evLoad, SX.shapeUp, SX.evFieldAddr, SX.evFill, SX.evBuild, SX.szs, SX.cellsV, SX.evNew, SX.evStore, SX.spliceL, SX.SV.cells, SX.evNil, SX.TD.isAgg, SX.tails, SX.NotAgg, SX.thaw, SX.frz, SX.Froz, SX.frzStep, Go.Value.cells, cfg23m, deskC, coC, evC]
        refine ⟨by (unfold SX.Ob; first | trivial | omega | ((try simp only [SX.inK]); (try simp [SX.den, SX.IsU8, SX.AllP, *]); (try omega))), ?_⟩
        intro a22 w22 hr22' ht22
        have hr22 := hr21.unbase hr22'
        have hl21 : (c.W ++ [(⟨e.z, e.h, c.T.last + 1⟩ : Fen)]).length = c.W.length + 1 := by simp
        rw [hl21] at hV21
        have hV22 := hV21.keep hr22'.keeps (by simp only [mutB]; simp; refine ⟨⟨hDB, by omega⟩, ?_⟩; repeat (first | exact ⟨hnb _ (by omega), by omega⟩ | refine ⟨⟨hnb _ (by omega), by omega⟩, ?_⟩))
        have hA : zoneA c e = ⟨0, c.T.last + 1, [⟨e.z, e.h, c.T.last + 1⟩]⟩ := by rw [zoneA, if_neg c3, if_neg (by simpa using hm), if_neg (by simp [hh, hw'])]
        exact post_retn (endC1 hr22 rfl rfl rfl tok43 rfl ⟨.slice (some ⟨sY, 0, none⟩) 1 1, D :: Bw, by rw [hA]; rfl, by rw [hA]; exact (RdS.lit hr22.all.2.2.2.2.2.1.1 (by simp [fenC])).mono (fun x _ hx => by subst hx; show w.heap.size ≤ _; omega), fun x hx => (by rcases List.mem_cons.1 hx with rfl | hx; exact .inl rfl; exact .inr (.inr (hBw x hx).1)), hr22.keeps, fun _ => ⟨vL, vS, .slice adV (c.W.length + 1) cpV, hr22.all.1.1, (h.L.rd.keep hr22.keeps (sB _ h.nL h.LW)).mono fun x _ hx => .inl hx, (h.S.keep hr22.keeps (sB _ h.nS h.SW)).mono fun x _ hx => .inl hx, hV22.rd.mono fun x _ hx => hx.elim (fun hx => .inl (hBw x hx).1) fun hx => .inr (show w.heap.size ≤ x by omega)⟩⟩).1
      · refine seg cfg23m_ok mixed PanicFree.body 1000 [] [] hr8.rebase (by first | trivial | exact HpRep.nil | assumption) (by kernel_rfl) fun sX hsX => ?_
        simp (maxSteps := 10000000) [SX.vc, SX.stop, SX.contS, SX.contR, SX.contD, SX.sxStep, SX.stepPure, SX.stepNew, SX.stepStore, SX.stepKeep, SX.guardIx, SX.evOp, SX.opd, SX.opds, SX.look, SX.putS, SX.gobs, SX.AllP, SX.leave, SX.lookT, SX.lookN, SX.evBuiltin, SX.evLoad, SX.shapeUp, SX.evFieldAddr, SX.evFill, SX.evBuild, SX.szs, SX.cellsV, SX.evNew, SX.evStore, SX.spliceL, SX.SV.cells, SX.evNil, SX.TD.isAgg, SX.tails, SX.NotAgg, SX.thaw, SX.frz, SX.Froz, SX.frzStep, Go.Value.cells, cfg23m, deskC, coC, evC]
        refine ⟨by (unfold SX.Ob; first | trivial | omega | ((try simp only [SX.inK]); (try simp [SX.den, SX.IsU8, SX.AllP, *]); (try omega))), ?_⟩
        intro a20 w20 hr20' ht20
        have hr20 := hr8.unbase hr20'
        have q20 := hpLt hr20.all
        simp at q20
        have z20 : w8.heap.size ≤ w20.heap.size := hr20'.keeps.size
        have hW20 := hW8.keep hr20'.keeps (by simp only [mutB]; simp; refine ⟨hDB, ?_⟩; repeat (first | exact hnb _ (by omega) | refine ⟨hnb _ (by omega), ?_⟩))
        refine post_appD (enc := fenC) (sz := 3) (d := fen0) (Pb := fun x => x ∈ Bw ∨ w20.heap.size ≤ x) (L := c.W) (M := [⟨e.z, e.h, c.T.last + 1⟩]) (C := cfg23m) cfg23m_ok hr20 rfl rfl rfl (by simp) rfl rfl rfl rfl rfl rfl rfl rfl rfl (by decide) (flatF _) (by simp; omega) (fun x hx => .inr hx) (hW20.mono fun x _ hx => .inl hx) (RdS.lit hr20.all.2.2.2.2.1.1 (by simp [fenC])) _ (fun w' B hk hB => HpAll.to hk hr20.all fun x hx hb => (by
            have h1 := (hB _ hb).1.resolve_right (by have := (hB _ hb).2; omega)
            simp only [List.mem_cons, List.not_mem_nil, or_false] at hx
            rcases hx with rfl | rfl | rfl | rfl | rfl
            · exact hDB h1
            all_goals exact hnb _ (by simp only; omega) h1)) (fun x hx => hx.elim (fun h => .inr (List.mem_cons.2 (.inr h))) fun h => .inl (show w.heap.size ≤ x by omega)) (fun _ _ _ _ => HpRep.nil) fun V a21 w21 B hV21 hB21 hk21 hr21 => ?_
        have z21 : w20.heap.size ≤ w21.heap.size := hk21.size
        obtain ⟨adV, cpV, rfl⟩ := hV21.slice
        have ht21 := zfz4 hr21.all.1.1 hr21.all.2.1.1 hr21.all.2.2.1.1 hr21.all.2.2.2.1.1
        refine seg cfg23m_ok mixed PanicFree.body 1000 [] [] hr21.rebase (by first | trivial | exact HpRep.nil | assumption) (by kernel_rfl) fun sY hsY => ?_
        simp (maxSteps := 10000000) [SX.vc, SX.stop, SX.contS, SX.contR, SX.contD, SX.sxStep, SX.stepPure, SX.stepNew, SX.stepStore, SX.stepKeep, SX.guardIx, SX.evOp, SX.opd, SX.opds, SX.look, SX.putS, SX.gobs, SX.AllP, SX.leave, SX.lookT, SX.lookN, SX.evBuiltin, SX.evLoad, SX.shapeUp, SX.evFieldAddr, SX.evFill, SX.evBuild, SX.szs, SX.cellsV, SX.evNew, SX.evStore, SX.spliceL, SX.SV.cells, SX.evNil, SX.TD.isAgg, SX.tails, SX.NotAgg, SX.thaw, SX.frz, SX.Froz, SX.frzStep, Go.Value.cells, cfg23m, deskC, coC, evC]
        refine ⟨by (unfold SX.Ob; first | trivial | omega | ((try simp only [SX.inK]); (try simp [SX.den, SX.IsU8, SX.AllP, *]); (try omega))), ?_⟩
        intro a22 w22 hr22' ht22
        have hr22 := hr21.unbase hr22'
        have hl21 : (c.W ++ [(⟨e.z, e.h, c.T.last + 1⟩ : Fen)]).length = c.W.length + 1 := by simp
        rw [hl21] at hV21
        have hV22 := hV21.keep hr22'.keeps (by simp only [mutB]; simp; refine ⟨⟨hDB, by omega⟩, ?_⟩; repeat (first | exact ⟨hnb _ (by omega), by omega⟩ | refine ⟨⟨hnb _ (by omega), by omega⟩, ?_⟩))
        have hA : zoneA c e = ⟨0, c.T.last + 1, [⟨e.z, e.h, c.T.last + 1⟩]⟩ := by rw [zoneA, if_neg c3, if_neg (by simpa using hm), if_neg (by simp [hh, hw'])]
        exact post_retn (endC1 hr22 rfl rfl rfl tok43 rfl ⟨.slice (some ⟨sY, 0, none⟩) 1 1, D :: Bw, by rw [hA]; rfl, by rw [hA]; exact (RdS.lit hr22.all.2.2.2.2.2.1.1 (by simp [fenC])).mono (fun x _ hx => by subst hx; show w.heap.size ≤ _; omega), fun x hx => (by rcases List.mem_cons.1 hx with rfl | hx; exact .inl rfl; exact .inr (.inr (hBw x hx).1)), hr22.keeps, fun _ => ⟨vL, vS, .slice adV (c.W.length + 1) cpV, hr22.all.1.1, (h.L.rd.keep hr22.keeps (sB _ h.nL h.LW)).mono fun x _ hx => .inl hx, (h.S.keep hr22.keeps (sB _ h.nS h.SW)).mono fun x _ hx => .inl hx, hV22.rd.mono fun x _ hx => hx.elim (fun hx => .inl (hBw x hx).1) fun hx => .inr (show w.heap.size ≤ x by omega)⟩⟩).1
    · refine seg cfg23m_ok mixed PanicFree.body 1000 [] [] hr7.rebase (by first | trivial | exact HpRep.nil | assumption) (by kernel_rfl) fun sF hsF => ?_
      simp (maxSteps := 10000000) [SX.vc, SX.stop, SX.contS, SX.contD, SX.sxStep, SX.stepPure, SX.stepNew, SX.stepStore, SX.guardIx, SX.evOp, SX.putS, SX.AllP, SX.lookT, SX.cellsV, SX.evNew, SX.evStore, SX.tails, SX.frz, SX.Froz, SX.frzStep, SX.fork, Go.Value.cells, cfg23m]
      refine ⟨by (unfold SX.Ob; first | trivial | omega | ((try simp only [SX.inK]); (try simp [SX.den, SX.IsU8, SX.AllP, *]); (try omega))), ?_⟩
      intro a8 w8 hr8' ht8
      have hr8 := hr7.unbase hr8'
      have q8 := hpLt hr8.all
      simp at q8
      have z8 : w7.heap.size ≤ w8.heap.size := hr8'.keeps.size
      have hW8 := hW7.keep hr8'.keeps (by simp only [mutB]; simp; refine ⟨hDB, ?_⟩; repeat (first | exact hnb _ (by omega) | refine ⟨hnb _ (by omega), ?_⟩))
      refine post_both ?_ ?_
      · refine seg cfg23m_ok mixed PanicFree.body 1000 [] [] hr8.rebase (by first | trivial | exact HpRep.nil | assumption) (by kernel_rfl) fun sG hsG => ?_
        simp (maxSteps := 10000000) [SX.vc, SX.stop, SX.contS, SX.contD, SX.sxStep, SX.stepPure, SX.stepNew, SX.stepStore, SX.guardIx, SX.evOp, SX.opd, SX.look, SX.putS, SX.gobs, SX.AllP, SX.lookT, SX.evLoad, SX.shapeUp, SX.evNew, SX.evStore, SX.TD.isAgg, SX.tails, SX.frz, SX.Froz, SX.frzStep, cfg23m]
        refine ⟨by (unfold SX.Ob; first | trivial | omega | ((try simp only [SX.inK]); (try simp [SX.den, SX.IsU8, SX.AllP, *]); (try omega))), ?_⟩
        intro a9 w9 hr9' ht9
        have hr9 := hr8.unbase hr9'
        have q9 := hpLt hr9.all
        simp at q9
        have z9 : w8.heap.size ≤ w9.heap.size := hr9'.keeps.size
        have hW9 := hW8.keep hr9'.keeps (by simp only [mutB]; simp; refine ⟨hDB, ?_⟩; repeat (first | exact hnb _ (by omega) | refine ⟨hnb _ (by omega), ?_⟩))
        refine post_callD3 47 [.ptr 0 D 0] hr9 rfl (wanted_none rfl) rfl (callable 47 Try.func47) (next_ok w9 D c e vL vS vW (by simpa [deskC, coC, evC] using hr9.all.1.1) l1 (by omega)) ?_
        rintro e10 w10 ⟨rfl, hk10, hD10⟩
        have hr10 := hr9.retK hk10 (fun z hz => .inr (List.mem_cons.2 (.inl (by simpa using hz)))) 58 (.v (.int .i64 (c.T.last + 1))) rfl _ (HpAll.wr hr9.all hk10 hD10) (by simp) rfl
        have ht10 := zfz hr10.all.1.1 hr10.all.2.1.1 hr10.all.2.2.1.1
        refine ⟨_, rfl, ht10, ?_⟩
        have q10 := hpLt hr10.all
        simp at q10
        have z10 : w9.heap.size ≤ w10.heap.size := hk10.size
        have hW10 := hW9.keep hk10 (nP1 hDB)
        refine seg cfg23m_ok mixed PanicFree.body 1000 [] [] hr10.rebase (by first | trivial | exact HpRep.nil | assumption) (by kernel_rfl) fun sX hsX => ?_
        simp (maxSteps := 10000000) [SX.vc, SX.stop, SX.contS, SX.contR, SX.contD, SX.sxStep, SX.stepPure, SX.stepNew, SX.stepStore, SX.stepKeep, SX.guardIx, SX.evOp, SX.opd, SX.opds, SX.look, SX.putS, SX.gobs, SX.AllP, SX.leave, SX.lookT, SX.lookN, SX.evBuiltin, SX.evLoad, SX.shapeUp, SX.evFieldAddr, SX.evFill, SX.evBuild, SX.szs, SX.cellsV, SX.evNew, SX.evStore, SX.spliceL, SX.SV.cells, SX.evNil, SX.TD.isAgg, SX.tails, SX.NotAgg, SX.thaw, SX.frz, SX.Froz, SX.frzStep, Go.Value.cells, cfg23m, deskC, coC, evC]
        refine ⟨by (unfold SX.Ob; first | trivial | omega | ((try simp only [SX.inK]); (try simp [SX.den, SX.IsU8, SX.AllP, *]); (try omega))), ?_⟩
        intro a20 w20 hr20' ht20
        have hr20 := hr10.unbase hr20'
        have q20 := hpLt hr20.all
        simp at q20
        have z20 : w10.heap.size ≤ w20.heap.size := hr20'.keeps.size
        have hW20 := hW10.keep hr20'.keeps (by simp only [mutB]; simp; refine ⟨hDB, ?_⟩; repeat (first | exact hnb _ (by omega) | refine ⟨hnb _ (by omega), ?_⟩))
        refine post_appD (enc := fenC) (sz := 3) (d := fen0) (Pb := fun x => x ∈ Bw ∨ w20.heap.size ≤ x) (L := c.W) (M := [⟨e.z, e.h, c.T.last + 1⟩]) (C := cfg23m) cfg23m_ok hr20 rfl rfl rfl (by simp) rfl rfl rfl rfl rfl rfl rfl rfl rfl (by decide) (flatF _) (by simp; omega) (fun x hx => .inr hx) (hW20.mono fun x _ hx => .inl hx) (RdS.lit hr20.all.2.2.2.2.1.1 (by simp [fenC])) _ (fun w' B hk hB => HpAll.to hk hr20.all fun x hx hb => (by
            have h1 := (hB _ hb).1.resolve_right (by have := (hB _ hb).2; omega)
            simp only [List.mem_cons, List.not_mem_nil, or_false] at hx
            rcases hx with rfl | rfl | rfl | rfl | rfl
            · exact hDB h1
            all_goals exact hnb _ (by simp only; omega) h1)) (fun x hx => hx.elim (fun h => .inr (List.mem_cons.2 (.inr h))) fun h => .inl (show w.heap.size ≤ x by omega)) (fun _ _ _ _ => HpRep.nil) fun V a21 w21 B hV21 hB21 hk21 hr21 => ?_
        have z21 : w20.heap.size ≤ w21.heap.size := hk21.size
        obtain ⟨adV, cpV, rfl⟩ := hV21.slice
        have ht21 := zfz4 hr21.all.1.1 hr21.all.2.1.1 hr21.all.2.2.1.1 hr21.all.2.2.2.1.1
        refine seg cfg23m_ok mixed PanicFree.body 1000 [] [] hr21.rebase (by first | trivial | exact HpRep.nil | assumption) (by kernel_rfl) fun sY hsY => ?_
        simp (maxSteps := 10000000) [SX.vc, SX.stop, SX.contS, SX.contR, SX.contD, SX.sxStep, SX.stepPure, SX.stepNew, SX.stepStore, SX.stepKeep, SX.guardIx, SX.evOp, SX.opd, SX.opds, SX.look, SX.putS, SX.gobs, SX.AllP, SX.leave, SX.lookT, SX.lookN, SX.evBuiltin, SX.evLoad, SX.shapeUp, SX.evFieldAddr, SX.evFill, SX.evBuild, SX.szs, SX.cellsV, SX.evNew, SX.evStore, SX.spliceL, SX.SV.cells, SX.evNil, SX.TD.isAgg, SX.tails, SX.NotAgg, SX.thaw, SX.frz, SX.Froz, SX.frzStep, Go.Value.cells, cfg23m, deskC, coC, evC]
        refine ⟨by (unfold SX.Ob; first | trivial | omega | ((try simp only [SX.inK]); (try simp [SX.den, SX.IsU8, SX.AllP, *]); (try omega))), ?_⟩
        intro a22 w22 hr22' ht22
        have hr22 := hr21.unbase hr22'
        have hl21 : (c.W ++ [(⟨e.z, e.h, c.T.last + 1⟩ : Fen)]).length = c.W.length + 1 := by simp
        rw [hl21] at hV21
        have hV22 := hV21.keep hr22'.keeps (by simp only [mutB]; simp; refine ⟨⟨hDB, by omega⟩, ?_⟩; repeat (first | exact ⟨hnb _ (by omega), by omega⟩ | refine ⟨⟨hnb _ (by omega), by omega⟩, ?_⟩))
        have hA : zoneA c e = ⟨0, c.T.last + 1, [⟨e.z, e.h, c.T.last + 1⟩]⟩ := by rw [zoneA, if_neg c3, if_neg (by simpa using hm), if_neg (by simp [hh, hw'])]
        exact post_retn (endC1 hr22 rfl rfl rfl tok43 rfl ⟨.slice (some ⟨sY, 0, none⟩) 1 1, D :: Bw, by rw [hA]; rfl, by rw [hA]; exact (RdS.lit hr22.all.2.2.2.2.2.1.1 (by simp [fenC])).mono (fun x _ hx => by subst hx; show w.heap.size ≤ _; omega), fun x hx => (by rcases List.mem_cons.1 hx with rfl | hx; exact .inl rfl; exact .inr (.inr (hBw x hx).1)), hr22.keeps, fun _ => ⟨vL, vS, .slice adV (c.W.length + 1) cpV, hr22.all.1.1, (h.L.rd.keep hr22.keeps (sB _ h.nL h.LW)).mono fun x _ hx => .inl hx, (h.S.keep hr22.keeps (sB _ h.nS h.SW)).mono fun x _ hx => .inl hx, hV22.rd.mono fun x _ hx => hx.elim (fun hx => .inl (hBw x hx).1) fun hx => .inr (show w.heap.size ≤ x by omega)⟩⟩).1
      · refine post_callD3 47 [.ptr 0 D 0] hr8 rfl (wanted_none rfl) rfl (callable 47 Try.func47) (next_ok w8 D c e vL vS vW (by simpa [deskC, coC, evC] using hr8.all.1.1) l1 (by omega)) ?_
        rintro e9 w9 ⟨rfl, hk9, hD9⟩
        have hr9 := hr8.retK hk9 (fun z hz => .inr (List.mem_cons.2 (.inl (by simpa using hz)))) 58 (.v (.int .i64 (c.T.last + 1))) rfl _ (HpAll.wr hr8.all hk9 hD9) (by simp) rfl
        have ht9 := zfz hr9.all.1.1 hr9.all.2.1.1 hr9.all.2.2.1.1
        refine ⟨_, rfl, ht9, ?_⟩
        have q9 := hpLt hr9.all
        simp at q9
        have z9 : w8.heap.size ≤ w9.heap.size := hk9.size
        have hW9 := hW8.keep hk9 (nP1 hDB)
        refine seg cfg23m_ok mixed PanicFree.body 1000 [] [] hr9.rebase (by first | trivial | exact HpRep.nil | assumption) (by kernel_rfl) fun sX hsX => ?_
        simp (maxSteps := 10000000) [SX.vc, SX.stop, SX.contS, SX.contR, SX.contD, SX.sxStep, SX.stepPure, SX.stepNew, SX.stepStore, SX.stepKeep, SX.guardIx, SX.evOp, SX.opd, SX.opds, SX.look, SX.putS, SX.gobs, SX.AllP, SX.leave, SX.lookT, SX.lookN, SX.evBuiltin, SX.evLoad, SX.shapeUp, SX.evFieldAddr, SX.evFill, SX.evBuild, SX.szs, SX.cellsV, SX.evNew, SX.evStore, SX.spliceL, SX.SV.cells, SX.evNil, SX.TD.isAgg, SX.tails, SX.NotAgg, SX.thaw, SX.frz, SX.Froz, SX.frzStep, Go.Value.cells, cfg23m, deskC, coC, evC]
        refine ⟨by (unfold SX.Ob; first | trivial | omega | ((try simp only [SX.inK]); (try simp [SX.den, SX.IsU8, SX.AllP, *]); (try omega))), ?_⟩
        intro a20 w20 hr20' ht20
        have hr20 := hr9.unbase hr20'
        have q20 := hpLt hr20.all
        simp at q20
        have z20 : w9.heap.size ≤ w20.heap.size := hr20'.keeps.size
        have hW20 := hW9.keep hr20'.keeps (by simp only [mutB]; simp; refine ⟨hDB, ?_⟩; repeat (first | exact hnb _ (by omega) | refine ⟨hnb _ (by omega), ?_⟩))
        refine post_appD (enc := fenC) (sz := 3) (d := fen0) (Pb := fun x => x ∈ Bw ∨ w20.heap.size ≤ x) (L := c.W) (M := [⟨e.z, e.h, c.T.last + 1⟩]) (C := cfg23m) cfg23m_ok hr20 rfl rfl rfl (by simp) rfl rfl rfl rfl rfl rfl rfl rfl rfl (by decide) (flatF _) (by simp; omega) (fun x hx => .inr hx) (hW20.mono fun x _ hx => .inl hx) (RdS.lit hr20.all.2.2.2.2.1.1 (by simp [fenC])) _ (fun w' B hk hB => HpAll.to hk hr20.all fun x hx hb => (by
            have h1 := (hB _ hb).1.resolve_right (by have := (hB _ hb).2; omega)
            simp only [List.mem_cons, List.not_mem_nil, or_false] at hx
            rcases hx with rfl | rfl | rfl | rfl | rfl
            · exact hDB h1
            all_goals exact hnb _ (by simp only; omega) h1)) (fun x hx => hx.elim (fun h => .inr (List.mem_cons.2 (.inr h))) fun h => .inl (show w.heap.size ≤ x by omega)) (fun _ _ _ _ => HpRep.nil) fun V a21 w21 B hV21 hB21 hk21 hr21 => ?_
        have z21 : w20.heap.size ≤ w21.heap.size := hk21.size
        obtain ⟨adV, cpV, rfl⟩ := hV21.slice
        have ht21 := zfz4 hr21.all.1.1 hr21.all.2.1.1 hr21.all.2.2.1.1 hr21.all.2.2.2.1.1
        refine seg cfg23m_ok mixed PanicFree.body 1000 [] [] hr21.rebase (by first | trivial | exact HpRep.nil | assumption) (by kernel_rfl) fun sY hsY => ?_
        simp (maxSteps := 10000000) [SX.vc, SX.stop, SX.contS, SX.contR, SX.contD, SX.sxStep, SX.stepPure, SX.stepNew, SX.stepStore, SX.stepKeep, SX.guardIx, SX.evOp, SX.opd, SX.opds, SX.look, SX.putS, SX.gobs, SX.AllP, SX.leave, SX.lookT, SX.lookN, SX.evBuiltin, SX.evLoad, SX.shapeUp, SX.evFieldAddr, SX.evFill, SX.evBuild, SX.szs, SX.cellsV, SX.evNew, SX.evStore, SX.spliceL, SX.SV.cells, SX.evNil, SX.TD.isAgg, SX.tails, SX.NotAgg, SX.thaw, SX.frz, SX.Froz, SX.frzStep, Go.Value.cells, cfg23m, deskC, coC, evC]
        refine ⟨by (unfold SX.Ob; first | trivial | omega | ((try simp only [SX.inK]); (try simp [SX.den, SX.IsU8, SX.AllP, *]); (try omega))), ?_⟩
        intro a22 w22 hr22' ht22
        have hr22 := hr21.unbase hr22'
        have hl21 : (c.W ++ [(⟨e.z, e.h, c.T.last + 1⟩ : Fen)]).length = c.W.length + 1 := by simp
        rw [hl21] at hV21
        have hV22 := hV21.keep hr22'.keeps (by simp only [mutB]; simp; refine ⟨⟨hDB, by omega⟩, ?_⟩; repeat (first | exact ⟨hnb _ (by omega), by omega⟩ | refine ⟨⟨hnb _ (by omega), by omega⟩, ?_⟩))
        have hA : zoneA c e = ⟨0, c.T.last + 1, [⟨e.z, e.h, c.T.last + 1⟩]⟩ := by rw [zoneA, if_neg c3, if_neg (by simpa using hm), if_neg (by simp [hh, hw'])]
        exact post_retn (endC1 hr22 rfl rfl rfl tok43 rfl ⟨.slice (some ⟨sY, 0, none⟩) 1 1, D :: Bw, by rw [hA]; rfl, by rw [hA]; exact (RdS.lit hr22.all.2.2.2.2.2.1.1 (by simp [fenC])).mono (fun x _ hx => by subst hx; show w.heap.size ≤ _; omega), fun x hx => (by rcases List.mem_cons.1 hx with rfl | hx; exact .inl rfl; exact .inr (.inr (hBw x hx).1)), hr22.keeps, fun _ => ⟨vL, vS, .slice adV (c.W.length + 1) cpV, hr22.all.1.1, (h.L.rd.keep hr22.keeps (sB _ h.nL h.LW)).mono fun x _ hx => .inl hx, (h.S.keep hr22.keeps (sB _ h.nS h.SW)).mono fun x _ hx => .inl hx, hV22.rd.mono fun x _ hx => hx.elim (fun hx => .inl (hBw x hx).1) fun hx => .inr (show w.heap.size ≤ x by omega)⟩⟩).1
end Go.Proofs.C8
