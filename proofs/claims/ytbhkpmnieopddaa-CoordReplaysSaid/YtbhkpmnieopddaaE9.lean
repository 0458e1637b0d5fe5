/- E9: texts of this proof, joined. -/
import Derived.Test.YtbhkpmnieopddaaE7
import Derived.Test.YtbhkpmnieopddaaE8
import Derived.Test.YtbhkpmnieopddaaA4
set_option linter.unusedVariables false
set_option linter.unusedSimpArgs false
set_option linter.unusedSectionVars false
namespace Go.Proofs.C8
open Go Go.Proofs Go.SX Go.RowKit Go.Proofs.L6
theorem endCC {P : Program} {fn : Func} {R : Ending → World → Prop} {F : Fr} {st : St} {a : Act} {w : World} (hr : RepX F st a w) {t ty t' ty' : Nat} (hres : fn.results = #[.cell t ty, .cell t' ty']) {i b u i' b' u' : Nat} {m m' : Bool} {l l' : List SV} {ti ti' : TI} (hl : lookD st.env t = some (.ptr i b 0)) (hi : st.hp[i]? = some (b, m, .cells l u)) (ht : ti.ok P ty)
    (hl' : lookD st.env t' = some (.ptr i' b' 0)) (hi' : st.hp[i']? = some (b', m', .cells l' u')) (ht' : ti'.ok P ty') {x x' : SV}
    (hs : shapeUp ti.d.isAgg ti.sz l = some x) (hs' : shapeUp ti'.d.isAgg ti'.sz l' = some x') (hR : R (.returned (.tuple #[den x, den x'])) w) : bodyPost P fn R .ret a w ∧ bodyPost P fn R .normal a w := by
  have h1 := hr.cellResult hl hi ht hs
  have h1' := hr.cellResult hl' hi' ht' hs'
  refine bodyPost_of hr.env.2.1 (v := .tuple #[den x, den x']) ?_ hR
  simp [results, hres, h1.1, h1.2, h1'.1, h1'.2]
theorem post_ins {P : Program} {C : Cfg} (htt : TTok P C.tt) {Q : Exit → Act → World → Prop} {F : Fr} {st : St} {all : Array Oper} {o : Oper} {l : List Oper} {ks : List W} {a : Act} {w : World} {t kt et : TypeId} {xo ko vo : Operand} {j b : Nat} {k : Int} {x : SV} {m : Int → Option SV} {ti tk : TI}
    (hr : RepX F st a w) (hw : Region.wanted o (yielded all a.tmps) = true) (hd : o.dst = none) (hop : o.op = .insert t xo ko vo) (hx : opd st 0 xo = some (.mp j b)) (hk : opd st 0 ko = some (.v (.int .i64 k))) (hv : opd st 0 vo = some x)
    (hti : lookT C.tt t = some ti) (hdt : ti.d = .map kt et) (htk : lookT C.tt kt = some tk) (hdk : tk.d = .int .i64) (hj : st.hp[j]? = some (b, true, .imap m))
    (hn : ∀ a' w', RepX F { st with hp := st.hp.set j (b, true, .imap (updFn m k x)) } a' w' → post P Q (.ops all l :: ks) .normal a' w') : post P Q (.ops all (o :: l) :: ks) .normal a w := by
  have he := hr.env.same (st' := st) rfl rfl rfl rfl
  obtain ⟨es, clk, hb, hm⟩ := hr.hp j b true _ hj
  obtain ⟨es1, clk1, h1, h2⟩ := run_mapUpdate (P := P) (w := w) ((htt _ _ hti).map hdt) ((htt _ _ htk).int hdk) hb hm k x
  refine post_skipG (w' := putBlk w b (.map es1 clk1)) hw ?_ ?_
  · simp only [execOp, hop, opd_sound he rfl hx, opd_sound he rfl hk, opd_sound he rfl hv, Sem.run_bind, den, h1, Result.andThen_ok, Sem.run_pure]
  · have hmm := hr.mem.store hj (new := .imap (updFn m k x)) (o := .map es1 clk1) ⟨es1, clk1, putBlk_same (lt_of_heap hb), h2⟩
    rw [hd]
    refine hn _ _ (Rep.of_mem (hr.env.same rfl rfl rfl rfl) ?_)
    show MemRep F _ (putBlk w b _).heap.size 0 (putBlk w b _)
    rw [putBlk_size]
    exact hmm
def mapD (sD : Nat) : Int → Option SV := updFn (updFn (updFn (updFn (updFn (updFn (updFn (updFn (fun _ => none) 1 (.fn (.func 22) [.ptr 4 sD 0] [])) 2 (.fn (.func 23) [.ptr 4 sD 0] [])) 3 (.fn (.func 24) [.ptr 4 sD 0] [])) 4 (.fn (.func 25) [.ptr 4 sD 0] [])) 5 (.fn (.func 26) [.ptr 4 sD 0] [])) 6 (.fn (.func 27) [.ptr 4 sD 0] [])) 7 (.fn (.func 28) [.ptr 4 sD 0] [])) 8 (.fn (.func 29) [.ptr 4 sD 0] [])
theorem mapD_no {sD : Nat} {d : Int} (h : ¬ (1 ≤ d ∧ d ≤ 8)) : mapD sD d = none := by
  unfold mapD updFn
  repeat (first | rfl | rw [if_neg (by omega)])
theorem mapD_yes {sD g : Nat} {d : Int} (h : 1 ≤ d ∧ d ≤ 8) (hg : (g : Int) = 21 + d) : mapD sD d = some (.fn (.func g) [.ptr 4 sD 0] []) := by
  have hd : d = 1 ∨ d = 2 ∨ d = 3 ∨ d = 4 ∨ d = 5 ∨ d = 6 ∨ d = 7 ∨ d = 8 := by omega
  rcases hd with rfl | rfl | rfl | rfl | rfl | rfl | rfl | rfl
  · obtain rfl : g = 22 := by omega
    rfl
  · obtain rfl : g = 23 := by omega
    rfl
  · obtain rfl : g = 24 := by omega
    rfl
  · obtain rfl : g = 25 := by omega
    rfl
  · obtain rfl : g = 26 := by omega
    rfl
  · obtain rfl : g = 27 := by omega
    rfl
  · obtain rfl : g = 28 := by omega
    rfl
  · obtain rfl : g = 29 := by omega
    rfl
theorem HpAll.setK {F : Fr} {w w' : World} {B : List Nat} {b : Nat} {m : Bool} {o o' : SO} (hk : KeepsTo w B w') (ho : o'.rep w' b) : ∀ {H : Hp} {i : Nat}, HpAll F w H → H[i]? = some (b, m, o) → (∀ e ∈ H, e.1 ≠ b → e.1 ∉ B) → HpAll F w' (H.set i (b, m, o'))
  | [], i, _, hi, _ => by simp at hi
  | (b0, m0, o0) :: t, 0, h, hi, hB => by
    simp only [List.getElem?_cons_zero, Option.some.injEq, Prod.mk.injEq] at hi
    obtain ⟨rfl, rfl, rfl⟩ := hi
    exact ⟨⟨ho, h.1.2.1, h.1.2.2⟩, HpAll.to hk h.2 fun e he => hB e (List.mem_cons_of_mem _ he) (h.1.2.2 e he).symm⟩
  | (b0, m0, o0) :: t, i + 1, h, hi, hB => by
    simp only [List.getElem?_cons_succ] at hi
    have hne := h.1.2.2 _ (List.mem_of_getElem? hi)
    exact ⟨⟨KeepsTo.same hk h.1.1 (hB _ List.mem_cons_self hne), h.1.2.1, fun e he => by
      rcases List.mem_or_eq_of_mem_set he with he | rfl
      · exact h.1.2.2 e he
      · exact hne⟩, HpAll.setK hk ho h.2 hi fun e he => hB e (List.mem_cons_of_mem _ he)⟩
theorem HpRep_frz {H : Hp} {w : World} (h : HpRep H w) : HpRep (frz H) w := by
  unfold frz
  split
  · exact HpRep.nil
  · intro i b m o hi
    rw [List.getElem?_map, Option.map_eq_some_iff] at hi
    obtain ⟨⟨b1, m1, o1⟩, h1, h2⟩ := hi
    simp only [Prod.mk.injEq] at h2
    obtain ⟨rfl, rfl, rfl⟩ := h2
    have := h i b1 m1 o1 h1
    split
    · exact SO.rep_lt this
    · exact this
def DoR (w : World) (c' : Co) (A : Ans) (ev : Ending) (w' : World) : Prop :=
  ∃ vL vS vW va, ev = .returned (den (.tu [.ag (coC c' vL vS vW), .ag (ansC A va)])) ∧ RdCo (fun x => w.heap.size ≤ x) w' vL vS vW c' ∧ RdF (fun x => w.heap.size ≤ x) w' va A.L ∧ Below w.heap.size w w'
structure Pre (c : Co) (e : Evt) : Prop where
  sm : Small c
  key : ∀ x ∈ c.T.L, 0 ≤ x.k ∧ x.k ≤ 1000000
  srt : Srt c.T.L
  no : ackI c e < c.W.length → ¬ HasK c.T.L e.z
theorem op_ok {QL QS QW : Nat → Prop} (w : World) (D : Nat) (c : Co) (e : Evt) (vL vS vW : Value) (h : Dsk QL QS QW D w c e vL vS vW) (hp : Pre c e) (hm : may e) (g : Nat) (hg : (g : Int) = 21 + e.d) :
    Callable Try.prog g ∧ Calls Try.prog g (denL [.ptr 0 D 0]).toArray w (OpR QL QS QW D w e (opA c e) (opC c e)) := by
  obtain ⟨h1, h2, h3⟩ := hm
  have hd : e.d = 1 ∨ e.d = 2 ∨ e.d = 3 ∨ e.d = 4 ∨ e.d = 5 ∨ e.d = 6 ∨ e.d = 7 ∨ e.d = 8 := by omega
  unfold opA opC
  rcases hd with hd | hd | hd | hd | hd | hd | hd | hd
  · obtain rfl : g = 22 := by omega
    rw [if_pos hd, if_pos hd]
    exact ⟨callable 22 Try.func22, join_ok w D c e vL vS vW h hp.sm (h3 (by omega)).1 (h3 (by omega)).2⟩
  · obtain rfl : g = 23 := by omega
    rw [if_neg (by omega), if_pos hd, if_neg (by omega), if_pos hd]
    exact ⟨callable 23 Try.func23, zone_ok w D c e vL vS vW h hp.sm⟩
  · obtain rfl : g = 24 := by omega
    rw [if_neg (by omega), if_neg (by omega), if_pos hd, if_neg (by omega), if_neg (by omega), if_pos hd]
    exact ⟨callable 24 Try.func24, ack_ok w D c e vL vS vW h hp.sm hp.srt hp.no⟩
  · obtain rfl : g = 25 := by omega
    rw [if_neg (by omega), if_neg (by omega), if_neg (by omega), if_pos hd, if_neg (by omega), if_neg (by omega), if_neg (by omega), if_pos hd]
    exact ⟨callable 25 Try.func25, span_ok w D c e vL vS vW h hp.sm⟩
  · obtain rfl : g = 26 := by omega
    rw [if_neg (by omega), if_neg (by omega), if_neg (by omega), if_neg (by omega), if_pos hd, if_neg (by omega), if_neg (by omega), if_neg (by omega), if_neg (by omega), if_pos hd]
    exact ⟨callable 26 Try.func26, elect_ok w D c e vL vS vW h hp.sm⟩
  · obtain rfl : g = 27 := by omega
    rw [if_neg (by omega), if_neg (by omega), if_neg (by omega), if_neg (by omega), if_neg (by omega), if_pos hd, if_neg (by omega), if_neg (by omega), if_neg (by omega), if_neg (by omega), if_neg (by omega), if_pos hd]
    exact ⟨callable 27 Try.func27, tick_ok w D c e vL vS vW h hp.sm hp.key⟩
  · obtain rfl : g = 28 := by omega
    rw [if_neg (by omega), if_neg (by omega), if_neg (by omega), if_neg (by omega), if_neg (by omega), if_neg (by omega), if_pos hd, if_neg (by omega), if_neg (by omega), if_neg (by omega), if_neg (by omega), if_neg (by omega), if_neg (by omega), if_pos hd]
    exact ⟨callable 28 Try.func28, renew_ok w D c e vL vS vW h hp.sm⟩
  · obtain rfl : g = 29 := by omega
    rw [if_neg (by omega), if_neg (by omega), if_neg (by omega), if_neg (by omega), if_neg (by omega), if_neg (by omega), if_neg (by omega), if_neg (by omega), if_neg (by omega), if_neg (by omega), if_neg (by omega), if_neg (by omega), if_neg (by omega), if_neg (by omega)]
    exact ⟨callable 29 Try.func29, leave_ok w D c e vL vS vW h hp.sm hp.key⟩
set_option maxRecDepth 100000 in
set_option maxHeartbeats 64000000 in
theorem do_ok {P : Nat → Prop} (w : World) (c : Co) (e : Evt) (vL vS vW : Value) (hc : RdCo P w vL vS vW c) (hp : Pre c e) :
    Calls Try.prog 12 (denL [.ag (coC c vL vS vW), .ag (evC e)]).toArray w (DoR w (doC c e) (doA c e)) := by
  have n1 := hp.sm.n1
  have n2 := hp.sm.n2
  have n3 := hp.sm.n3
  have n4 := hp.sm.n4
  obtain ⟨aL, cL, hvL⟩ := hc.1.slice
  obtain ⟨aS, cS, hvS⟩ := hc.2.1.slice
  obtain ⟨aW, cW, hvW⟩ := hc.2.2.slice
  subst hvL hvS hvW
  refine enter (F := frame0 w) Try.func12 rfl [.ag (coC c (.slice aL c.T.L.length cL) (.slice aS c.S.length cS) (.slice aW c.W.length cW)), .ag (evC e)] [] (by simp [Try.f12]) trivial (keeps0 w) fun a hr => ?_
  refine seg cfg12_ok mixed PanicFree.body 1000 [] [] hr (by first | trivial | exact HpRep.nil | assumption) (by kernel_rfl) fun sA hsA => ?_
  simp (maxSteps := 10000000) [SX.vc, SX.stop, SX.contS, SX.contR, SX.contD, SX.sxStep, SX.stepPure, SX.stepNew, SX.stepKeep, SX.guardIx, SX.evOp, SX.opd, SX.look, SX.putS, SX.gobs, SX.AllP, SX.leave, SX.lookT, SX.lookN, SX.evLoad, SX.shapeUp, SX.cellsV, SX.evNew, SX.SV.cells, SX.env0, SX.TD.isAgg, SX.thaw, Go.Value.cells, cfg12, Try.f12, coC, evC]
  refine ⟨by (unfold SX.Ob; first | trivial | omega | ((try simp only [SX.inK]); (try simp [SX.den, SX.IsU8, SX.AllP, *]); (try omega))), ?_⟩
  intro a1 w1 hr1 ht1
  have z1 : w.heap.size ≤ w1.heap.size := hr1.keeps.size
  have q1 := hpLt hr1.all
  simp at q1
  refine post_callD 21 [.ag (coC c (.slice aL c.T.L.length cL) (.slice aS c.S.length cS) (.slice aW c.W.length cW))] hr1 rfl (wanted_none rfl) rfl (callable 21 Try.func21) (copied_ok w1 c _ _ _ (hc.below hr1.keeps.toBelow) (by omega) n2 (by omega) (by omega)) ?_
  rintro e2 w2 ⟨vL, vS, vW, m1, m2, rfl, hm0, hm1, hm2, hL2, hS2, hW2, hb2⟩
  have ht2 := HpRep_below ht1 hb2
  refine ⟨_, rfl, ht2, ?_⟩
  have hr2 := hr1.ret hb2 11 (.ag (coC c vL vS vW)) rfl _ (hr1.all.below hb2) (by simp) rfl
  obtain ⟨ad2, cp2, rfl⟩ := hL2.slice
  obtain ⟨as2, cs2, rfl⟩ := hS2.slice
  obtain ⟨aw2, cw2, rfl⟩ := hW2.slice
  refine seg cfg12_ok mixed PanicFree.body 1000 [] [] hr2.rebase (by first | trivial | exact HpRep.nil | assumption) (by kernel_rfl) fun sD hsD => ?_
  simp (maxSteps := 10000000) [SX.vc, SX.stop, SX.contS, SX.contD, SX.sxStep, SX.stepPure, SX.stepNew, SX.stepStore, SX.stepKeep, SX.guardIx, SX.evOp, SX.opd, SX.opds, SX.look, SX.putS, SX.gobs, SX.AllP, SX.leave, SX.lookT, SX.evFill, SX.evBuild, SX.szs, SX.cellsV, SX.evNew, SX.evStore, SX.spliceL, SX.SV.cells, Go.Value.cells, cfg12, coC]
  refine ⟨by (unfold SX.Ob; first | trivial | omega | ((try simp only [SX.inK]); (try simp [SX.den, SX.IsU8, SX.AllP, *]); (try omega))), ?_⟩
  intro a3 w3 hr3' ht3
  have hr3 := hr2.unbase hr3'
  have z3 : w2.heap.size ≤ w3.heap.size := hr3'.keeps.size
  have q3 := hpLt hr3.all
  simp at q3
  refine post_ins cfg12_ok hr3.rebase (wanted_none rfl) rfl rfl rfl rfl rfl rfl rfl rfl rfl rfl fun b0 u0 hi0 => ?_
  refine seg cfg12_ok mixed PanicFree.body 1000 [] [] hi0 (by first | trivial | exact HpRep.nil | assumption) (by kernel_rfl) fun s_ hs_ => ?_
  simp (maxSteps := 10000000) [SX.vc, SX.stop, SX.contS, SX.sxStep, SX.stepPure, SX.stepNew, SX.stepStore, SX.guardIx, SX.evOp, SX.opd, SX.opds, SX.look, SX.putS, SX.gobs, SX.AllP, SX.evNew, SX.evStore]
  refine ⟨by (unfold SX.Ob; first | trivial | omega | ((try simp only [SX.inK]); (try simp [SX.den, SX.IsU8, SX.AllP, *]); (try omega))), ?_⟩
  intro c0 v0 hj0 _
  refine post_ins cfg12_ok hj0 (wanted_none rfl) rfl rfl rfl rfl rfl rfl rfl rfl rfl rfl fun b1 u1 hi1 => ?_
  refine seg cfg12_ok mixed PanicFree.body 1000 [] [] hi1 (by first | trivial | exact HpRep.nil | assumption) (by kernel_rfl) fun s_ hs_ => ?_
  simp (maxSteps := 10000000) [SX.vc, SX.stop, SX.contS, SX.sxStep, SX.stepPure, SX.stepNew, SX.stepStore, SX.guardIx, SX.evOp, SX.opd, SX.opds, SX.look, SX.putS, SX.gobs, SX.AllP, SX.evNew, SX.evStore]
  refine ⟨by (unfold SX.Ob; first | trivial | omega | ((try simp only [SX.inK]); (try simp [SX.den, SX.IsU8, SX.AllP, *]); (try omega))), ?_⟩
  intro c1 v1 hj1 _
  refine post_ins cfg12_ok hj1 (wanted_none rfl) rfl rfl rfl rfl rfl rfl rfl rfl rfl rfl fun b2 u2 hi2 => ?_
  refine seg cfg12_ok mixed PanicFree.body 1000 [] [] hi2 (by first | trivial | exact HpRep.nil | assumption) (by kernel_rfl) fun s_ hs_ => ?_
  simp (maxSteps := 10000000) [SX.vc, SX.stop, SX.contS, SX.sxStep, SX.stepPure, SX.stepNew, SX.stepStore, SX.guardIx, SX.evOp, SX.opd, SX.opds, SX.look, SX.putS, SX.gobs, SX.AllP, SX.evNew, SX.evStore]
  refine ⟨by (unfold SX.Ob; first | trivial | omega | ((try simp only [SX.inK]); (try simp [SX.den, SX.IsU8, SX.AllP, *]); (try omega))), ?_⟩
  intro c2 v2 hj2 _
  refine post_ins cfg12_ok hj2 (wanted_none rfl) rfl rfl rfl rfl rfl rfl rfl rfl rfl rfl fun b3 u3 hi3 => ?_
  refine seg cfg12_ok mixed PanicFree.body 1000 [] [] hi3 (by first | trivial | exact HpRep.nil | assumption) (by kernel_rfl) fun s_ hs_ => ?_
  simp (maxSteps := 10000000) [SX.vc, SX.stop, SX.contS, SX.sxStep, SX.stepPure, SX.stepNew, SX.stepStore, SX.guardIx, SX.evOp, SX.opd, SX.opds, SX.look, SX.putS, SX.gobs, SX.AllP, SX.evNew, SX.evStore]
  refine ⟨by (unfold SX.Ob; first | trivial | omega | ((try simp only [SX.inK]); (try simp [SX.den, SX.IsU8, SX.AllP, *]); (try omega))), ?_⟩
  intro c3 v3 hj3 _
  refine post_ins cfg12_ok hj3 (wanted_none rfl) rfl rfl rfl rfl rfl rfl rfl rfl rfl rfl fun b4 u4 hi4 => ?_
  refine seg cfg12_ok mixed PanicFree.body 1000 [] [] hi4 (by first | trivial | exact HpRep.nil | assumption) (by kernel_rfl) fun s_ hs_ => ?_
  simp (maxSteps := 10000000) [SX.vc, SX.stop, SX.contS, SX.sxStep, SX.stepPure, SX.stepNew, SX.stepStore, SX.guardIx, SX.evOp, SX.opd, SX.opds, SX.look, SX.putS, SX.gobs, SX.AllP, SX.evNew, SX.evStore]
  refine ⟨by (unfold SX.Ob; first | trivial | omega | ((try simp only [SX.inK]); (try simp [SX.den, SX.IsU8, SX.AllP, *]); (try omega))), ?_⟩
  intro c4 v4 hj4 _
  refine post_ins cfg12_ok hj4 (wanted_none rfl) rfl rfl rfl rfl rfl rfl rfl rfl rfl rfl fun b5 u5 hi5 => ?_
  refine seg cfg12_ok mixed PanicFree.body 1000 [] [] hi5 (by first | trivial | exact HpRep.nil | assumption) (by kernel_rfl) fun s_ hs_ => ?_
  simp (maxSteps := 10000000) [SX.vc, SX.stop, SX.contS, SX.sxStep, SX.stepPure, SX.stepNew, SX.stepStore, SX.guardIx, SX.evOp, SX.opd, SX.opds, SX.look, SX.putS, SX.gobs, SX.AllP, SX.evNew, SX.evStore]
  refine ⟨by (unfold SX.Ob; first | trivial | omega | ((try simp only [SX.inK]); (try simp [SX.den, SX.IsU8, SX.AllP, *]); (try omega))), ?_⟩
  intro c5 v5 hj5 _
  refine post_ins cfg12_ok hj5 (wanted_none rfl) rfl rfl rfl rfl rfl rfl rfl rfl rfl rfl fun b6 u6 hi6 => ?_
  refine seg cfg12_ok mixed PanicFree.body 1000 [] [] hi6 (by first | trivial | exact HpRep.nil | assumption) (by kernel_rfl) fun s_ hs_ => ?_
  simp (maxSteps := 10000000) [SX.vc, SX.stop, SX.contS, SX.sxStep, SX.stepPure, SX.stepNew, SX.stepStore, SX.guardIx, SX.evOp, SX.opd, SX.opds, SX.look, SX.putS, SX.gobs, SX.AllP, SX.evNew, SX.evStore]
  refine ⟨by (unfold SX.Ob; first | trivial | omega | ((try simp only [SX.inK]); (try simp [SX.den, SX.IsU8, SX.AllP, *]); (try omega))), ?_⟩
  intro c6 v6 hj6 _
  refine post_ins cfg12_ok hj6 (wanted_none rfl) rfl rfl rfl rfl rfl rfl rfl rfl rfl rfl fun b7 u7 hi7 => ?_
  have hM : updFn (updFn (updFn (updFn (updFn (updFn (updFn (updFn (fun _ : Int => none) 1 (.fn (.func 22) [.ptr 4 sD 0] [])) 2 (.fn (.func 23) [.ptr 4 sD 0] [])) 3 (.fn (.func 24) [.ptr 4 sD 0] [])) 4 (.fn (.func 25) [.ptr 4 sD 0] [])) 5 (.fn (.func 26) [.ptr 4 sD 0] [])) 6 (.fn (.func 27) [.ptr 4 sD 0] [])) 7 (.fn (.func 28) [.ptr 4 sD 0] [])) 8 (.fn (.func 29) [.ptr 4 sD 0] []) = mapD sD := rfl
  simp only [hM] at hi7
  by_cases hd : 1 ≤ e.d ∧ e.d ≤ 8
  rotate_left
  · have hmk := mapD_no (sD := sD) hd
    have hm : ¬ may e := fun h => hd ⟨h.1, h.2.1⟩
    refine seg cfg12_ok mixed PanicFree.body 1000 [true] [] hi7 (by first | trivial | exact HpRep.nil | assumption) (by kernel_rfl) fun s_ hs_ => ?_
    simp (maxSteps := 10000000) [SX.vc, SX.stop, SX.contS, SX.contB, SX.sxStep, SX.stepPure, SX.stepNew, SX.stepStore, SX.guardIx, SX.evOp, SX.opd, SX.look, SX.putS, SX.gobs, SX.AllP, SX.leave, SX.lookC, SX.lookB, SX.lookT, SX.findK, SX.evBin, SX.evInt, SX.evEq, SX.evLoad, SX.shapeUp, SX.evFieldAddr, SX.evNew, SX.evStore, SX.evPick, SX.pickOpd, SX.cnd, SX.TD.isAgg, SX.evLookup, cfg12, hmk]
    refine ⟨by (unfold SX.Ob; first | trivial | omega | ((try simp only [SX.inK]); (try simp [SX.den, SX.IsU8, SX.AllP, *]); (try omega))), ?_⟩
    intro a4 w4 hr4' _
    have hr4 := hr3.unbase hr4'
    have q4 := hpLt hr4.all
    simp at q4
    refine post_call 21 [.ag (coC c (.slice aL c.T.L.length cL) (.slice aS c.S.length cS) (.slice aW c.W.length cW))] hr4 (wanted_none rfl) rfl (callable 21 Try.func21) (copied_ok w4 c _ _ _ (hc.below hr4.keeps.toBelow) (by omega) n2 (by omega) (by omega)) ?_
    rintro e5 w5 ⟨uL, uS, uW, k1, k2, rfl, hk0, hk1, hk2, hL5, hS5, hW5, hb5⟩
    refine ⟨_, rfl, ?_⟩
    have hr5 := hr4.ret hb5 55 (.ag (coC c uL uS uW)) rfl _ (hr4.all.below hb5) (by simp) rfl
    refine post_call 30 [.v (.int .i64 1)] hr5 (by first | exact wanted_none rfl | exact wanted_zero (hr5.env.same rfl rfl rfl rfl) rfl (by simp) | exact wanted_zero (hr5.env.same rfl rfl rfl rfl) rfl (by simp [*])) rfl (callable 30 Try.func30) (fails_ok _ _) ?_
    rintro e6 w6 ⟨rfl, hb6⟩
    refine ⟨_, rfl, ?_⟩
    have h6 := hr5.ret hb6 56 (.ag (ansC (noA 1) (.slice none 0 0))) rfl _ (hr5.all.below hb6) (by simp) rfl
    obtain ⟨ad5, cp5, rfl⟩ := hL5.slice
    obtain ⟨as5, cs5, rfl⟩ := hS5.slice
    obtain ⟨aw5, cw5, rfl⟩ := hW5.slice
    refine seg cfg12_ok mixed PanicFree.body 1000 [] [] h6.rebase (by first | trivial | exact HpRep.nil | assumption) (by kernel_rfl) fun s_ hs_ => ?_
    simp (maxSteps := 10000000) [SX.vc, SX.stop, SX.contS, SX.sxStep, SX.stepPure, SX.stepNew, SX.stepStore, SX.guardIx, SX.evOp, SX.opd, SX.look, SX.putS, SX.AllP, SX.leave, SX.lookT, SX.evNew, SX.evStore, SX.spliceL, SX.SV.cells, SX.NotAgg, cfg12, coC, ansC, noA]
    refine ⟨by (unfold SX.Ob; first | trivial | omega | ((try simp only [SX.inK]); (try simp [SX.den, SX.IsU8, SX.AllP, *]); (try omega))), ?_⟩
    intro a7 w7 hr7' _
    have hr7 := h6.unbase hr7'
    have z4 : w.heap.size ≤ w4.heap.size := hr4.keeps.size
    have kp : ∀ (Q : Nat → Prop), (∀ x, Q x → w4.heap.size ≤ x) → ∀ x ∈ (frameAt w6 [(sA, true, .any), (sA + 1, true, .any), (sA + 2, true, .any), (sA + 3, true, .any), (sD, true, .any), (sD + 1, true, .any)]).M, ¬ Q x := fun Q hQ x hx hq => by
      have := hQ x hq
      simp [frameAt, mutB] at hx
      omega
    have hL7 := (hL5.below hb6).keep hr7'.keeps (kp _ fun x h => h.1)
    have hS7 := (hS5.below hb6).keep hr7'.keeps (kp _ fun x h => by omega)
    have hW7 := (hW5.below hb6).keep hr7'.keeps (kp _ fun x h => by omega)
    have hA : doA c e = noA 1 := if_neg hm
    have hC : doC c e = c := by unfold doC; rw [hA]; rfl
    exact post_retn (endCC hr7 rfl rfl rfl tok31 rfl rfl tok43 rfl rfl ⟨_, _, _, .slice none 0 0, by rw [hA, hC]; rfl, by rw [hC]; exact ⟨hL7.rd.mono fun x _ h => by omega, hS7.rd.mono fun x _ h => by omega, hW7.rd.mono fun x _ h => by omega⟩, by rw [hA]; exact OwS.nil.rd, hr7.keeps.toBelow⟩).1
  obtain ⟨g, hg⟩ : ∃ g : Nat, (g : Int) = 21 + e.d := ⟨(21 + e.d).toNat, by omega⟩
  have hmk := mapD_yes (sD := sD) hd hg
  by_cases hm : may e
  rotate_left
  · have h6 : ¬ e.d = 6 := fun h => hm ⟨hd.1, hd.2, fun h' => absurd h h'⟩
    by_cases h7 : e.h < 0
    · refine seg cfg12_ok mixed PanicFree.body 1000 [true] [(43, true), (47, true)] hi7 (by first | trivial | exact HpRep.nil | assumption) (by kernel_rfl) fun s_ hs_ => ?_
      simp (maxSteps := 10000000) [SX.vc, SX.stop, SX.contS, SX.contB, SX.sxStep, SX.stepPure, SX.stepNew, SX.stepStore, SX.guardIx, SX.evOp, SX.opd, SX.look, SX.putS, SX.gobs, SX.AllP, SX.leave, SX.lookC, SX.lookB, SX.lookT, SX.findK, SX.evBin, SX.evInt, SX.evEq, SX.evLoad, SX.shapeUp, SX.evFieldAddr, SX.evNew, SX.evStore, SX.evPick, SX.pickOpd, SX.cnd, SX.TD.isAgg, SX.evLookup, Go.undef, cfg12, hmk, h6, h7]
      refine ⟨by (unfold SX.Ob; first | trivial | omega | ((try simp only [SX.inK]); (try simp [SX.den, SX.IsU8, SX.AllP, *]); (try omega))), ?_⟩
      intro a4 w4 hr4' _
      have hr4 := hr3.unbase hr4'
      have q4 := hpLt hr4.all
      simp at q4
      refine post_call 21 [.ag (coC c (.slice aL c.T.L.length cL) (.slice aS c.S.length cS) (.slice aW c.W.length cW))] hr4 (wanted_none rfl) rfl (callable 21 Try.func21) (copied_ok w4 c _ _ _ (hc.below hr4.keeps.toBelow) (by omega) n2 (by omega) (by omega)) ?_
      rintro e5 w5 ⟨uL, uS, uW, k1, k2, rfl, hk0, hk1, hk2, hL5, hS5, hW5, hb5⟩
      refine ⟨_, rfl, ?_⟩
      have hr5 := hr4.ret hb5 55 (.ag (coC c uL uS uW)) rfl _ (hr4.all.below hb5) (by simp) rfl
      refine post_call 30 [.v (.int .i64 1)] hr5 (by first | exact wanted_none rfl | exact wanted_zero (hr5.env.same rfl rfl rfl rfl) rfl (by simp) | exact wanted_zero (hr5.env.same rfl rfl rfl rfl) rfl (by simp [*])) rfl (callable 30 Try.func30) (fails_ok _ _) ?_
      rintro e6 w6 ⟨rfl, hb6⟩
      refine ⟨_, rfl, ?_⟩
      have h6 := hr5.ret hb6 56 (.ag (ansC (noA 1) (.slice none 0 0))) rfl _ (hr5.all.below hb6) (by simp) rfl
      obtain ⟨ad5, cp5, rfl⟩ := hL5.slice
      obtain ⟨as5, cs5, rfl⟩ := hS5.slice
      obtain ⟨aw5, cw5, rfl⟩ := hW5.slice
      refine seg cfg12_ok mixed PanicFree.body 1000 [] [] h6.rebase (by first | trivial | exact HpRep.nil | assumption) (by kernel_rfl) fun s_ hs_ => ?_
      simp (maxSteps := 10000000) [SX.vc, SX.stop, SX.contS, SX.sxStep, SX.stepPure, SX.stepNew, SX.stepStore, SX.guardIx, SX.evOp, SX.opd, SX.look, SX.putS, SX.AllP, SX.leave, SX.lookT, SX.evNew, SX.evStore, SX.spliceL, SX.SV.cells, SX.NotAgg, cfg12, coC, ansC, noA]
      refine ⟨by (unfold SX.Ob; first | trivial | omega | ((try simp only [SX.inK]); (try simp [SX.den, SX.IsU8, SX.AllP, *]); (try omega))), ?_⟩
      intro a7 w7 hr7' _
      have hr7 := h6.unbase hr7'
      have z4 : w.heap.size ≤ w4.heap.size := hr4.keeps.size
      have kp : ∀ (Q : Nat → Prop), (∀ x, Q x → w4.heap.size ≤ x) → ∀ x ∈ (frameAt w6 [(sA, true, .any), (sA + 1, true, .any), (sA + 2, true, .any), (sA + 3, true, .any), (sD, true, .any), (sD + 1, true, .any)]).M, ¬ Q x := fun Q hQ x hx hq => by
        have := hQ x hq
        simp [frameAt, mutB] at hx
        omega
      have hL7 := (hL5.below hb6).keep hr7'.keeps (kp _ fun x h => h.1)
      have hS7 := (hS5.below hb6).keep hr7'.keeps (kp _ fun x h => by omega)
      have hW7 := (hW5.below hb6).keep hr7'.keeps (kp _ fun x h => by omega)
      have hA : doA c e = noA 1 := if_neg hm
      have hC : doC c e = c := by unfold doC; rw [hA]; rfl
      exact post_retn (endCC hr7 rfl rfl rfl tok31 rfl rfl tok43 rfl rfl ⟨_, _, _, .slice none 0 0, by rw [hA, hC]; rfl, by rw [hC]; exact ⟨hL7.rd.mono fun x _ h => by omega, hS7.rd.mono fun x _ h => by omega, hW7.rd.mono fun x _ h => by omega⟩, by rw [hA]; exact OwS.nil.rd, hr7.keeps.toBelow⟩).1
    · have h8 : 8 ≤ e.h := Int.not_lt.1 fun h => hm ⟨hd.1, hd.2, fun _ => ⟨Int.not_lt.1 h7, h⟩⟩
      refine seg cfg12_ok mixed PanicFree.body 1000 [true] [(43, true), (47, false)] hi7 (by first | trivial | exact HpRep.nil | assumption) (by kernel_rfl) fun s_ hs_ => ?_
      simp (maxSteps := 10000000) [SX.vc, SX.stop, SX.contS, SX.contB, SX.sxStep, SX.stepPure, SX.stepNew, SX.stepStore, SX.guardIx, SX.evOp, SX.opd, SX.look, SX.putS, SX.gobs, SX.AllP, SX.leave, SX.lookC, SX.lookB, SX.lookT, SX.findK, SX.evBin, SX.evInt, SX.evEq, SX.evLoad, SX.shapeUp, SX.evFieldAddr, SX.evNew, SX.evStore, SX.evPick, SX.pickOpd, SX.cnd, SX.TD.isAgg, SX.evLookup, cfg12, hmk, h6, h7, h8]
      refine ⟨by (unfold SX.Ob; first | trivial | omega | ((try simp only [SX.inK]); (try simp [SX.den, SX.IsU8, SX.AllP, *]); (try omega))), ?_⟩
      intro a4 w4 hr4' _
      have hr4 := hr3.unbase hr4'
      have q4 := hpLt hr4.all
      simp at q4
      refine post_call 21 [.ag (coC c (.slice aL c.T.L.length cL) (.slice aS c.S.length cS) (.slice aW c.W.length cW))] hr4 (wanted_none rfl) rfl (callable 21 Try.func21) (copied_ok w4 c _ _ _ (hc.below hr4.keeps.toBelow) (by omega) n2 (by omega) (by omega)) ?_
      rintro e5 w5 ⟨uL, uS, uW, k1, k2, rfl, hk0, hk1, hk2, hL5, hS5, hW5, hb5⟩
      refine ⟨_, rfl, ?_⟩
      have hr5 := hr4.ret hb5 55 (.ag (coC c uL uS uW)) rfl _ (hr4.all.below hb5) (by simp) rfl
      refine post_call 30 [.v (.int .i64 1)] hr5 (by first | exact wanted_none rfl | exact wanted_zero (hr5.env.same rfl rfl rfl rfl) rfl (by simp) | exact wanted_zero (hr5.env.same rfl rfl rfl rfl) rfl (by simp [*])) rfl (callable 30 Try.func30) (fails_ok _ _) ?_
      rintro e6 w6 ⟨rfl, hb6⟩
      refine ⟨_, rfl, ?_⟩
      have h6 := hr5.ret hb6 56 (.ag (ansC (noA 1) (.slice none 0 0))) rfl _ (hr5.all.below hb6) (by simp) rfl
      obtain ⟨ad5, cp5, rfl⟩ := hL5.slice
      obtain ⟨as5, cs5, rfl⟩ := hS5.slice
      obtain ⟨aw5, cw5, rfl⟩ := hW5.slice
      refine seg cfg12_ok mixed PanicFree.body 1000 [] [] h6.rebase (by first | trivial | exact HpRep.nil | assumption) (by kernel_rfl) fun s_ hs_ => ?_
      simp (maxSteps := 10000000) [SX.vc, SX.stop, SX.contS, SX.sxStep, SX.stepPure, SX.stepNew, SX.stepStore, SX.guardIx, SX.evOp, SX.opd, SX.look, SX.putS, SX.AllP, SX.leave, SX.lookT, SX.evNew, SX.evStore, SX.spliceL, SX.SV.cells, SX.NotAgg, cfg12, coC, ansC, noA]
      refine ⟨by (unfold SX.Ob; first | trivial | omega | ((try simp only [SX.inK]); (try simp [SX.den, SX.IsU8, SX.AllP, *]); (try omega))), ?_⟩
      intro a7 w7 hr7' _
      have hr7 := h6.unbase hr7'
      have z4 : w.heap.size ≤ w4.heap.size := hr4.keeps.size
      have kp : ∀ (Q : Nat → Prop), (∀ x, Q x → w4.heap.size ≤ x) → ∀ x ∈ (frameAt w6 [(sA, true, .any), (sA + 1, true, .any), (sA + 2, true, .any), (sA + 3, true, .any), (sD, true, .any), (sD + 1, true, .any)]).M, ¬ Q x := fun Q hQ x hx hq => by
        have := hQ x hq
        simp [frameAt, mutB] at hx
        omega
      have hL7 := (hL5.below hb6).keep hr7'.keeps (kp _ fun x h => h.1)
      have hS7 := (hS5.below hb6).keep hr7'.keeps (kp _ fun x h => by omega)
      have hW7 := (hW5.below hb6).keep hr7'.keeps (kp _ fun x h => by omega)
      have hA : doA c e = noA 1 := if_neg hm
      have hC : doC c e = c := by unfold doC; rw [hA]; rfl
      exact post_retn (endCC hr7 rfl rfl rfl tok31 rfl rfl tok43 rfl rfl ⟨_, _, _, .slice none 0 0, by rw [hA, hC]; rfl, by rw [hC]; exact ⟨hL7.rd.mono fun x _ h => by omega, hS7.rd.mono fun x _ h => by omega, hW7.rd.mono fun x _ h => by omega⟩, by rw [hA]; exact OwS.nil.rd, hr7.keeps.toBelow⟩).1
  have h78 : e.d = 6 ∨ (0 ≤ e.h ∧ e.h < 8) := by
    by_cases h : e.d = 6
    · exact .inl h
    · exact .inr (hm.2.2 h)
  by_cases h6 : e.d = 6
  · rw [h6] at hmk
    refine seg cfg12_ok mixed PanicFree.body 1000 [false] [(43, false)] hi7 (by first | trivial | exact HpRep.nil | assumption) (by kernel_rfl) fun s_ hs_ => ?_
    simp (maxSteps := 10000000) [SX.vc, SX.stop, SX.contS, SX.contB, SX.sxStep, SX.stepPure, SX.stepNew, SX.stepStore, SX.guardIx, SX.evOp, SX.opd, SX.look, SX.putS, SX.gobs, SX.AllP, SX.leave, SX.lookC, SX.lookB, SX.lookT, SX.findK, SX.evBin, SX.evInt, SX.evEq, SX.evLoad, SX.shapeUp, SX.evFieldAddr, SX.evNew, SX.evStore, SX.evPick, SX.pickOpd, SX.cnd, SX.TD.isAgg, SX.evLookup, Go.undef, cfg12, hmk, h6]
    refine ⟨by (unfold SX.Ob; first | trivial | omega | ((try simp only [SX.inK]); (try simp [SX.den, SX.IsU8, SX.AllP, *]); (try omega))), ?_⟩
    intro a4 w4 hr4' _
    have hr4 := hr3.unbase hr4'
    have q4 := hpLt hr4.all
    simp at q4
    have z4 : w3.heap.size ≤ w4.heap.size := hr4'.keeps.size
    have kp3 : ∀ (Q : Nat → Prop), (∀ x, Q x → w1.heap.size ≤ x ∧ x < w2.heap.size) → ∀ x ∈ (frameAt w2 [(sA, true, .any), (sA + 1, true, .any), (sA + 2, true, .any), (sA + 3, true, .any)]).M, ¬ Q x := fun Q hQ x hx hq => by
      have := hQ x hq
      simp [frameAt, mutB] at hx
      omega
    have kp4 : ∀ (Q : Nat → Prop), (∀ x, Q x → w1.heap.size ≤ x ∧ x < w2.heap.size) → ∀ x ∈ (frameAt w3 [(sA, true, .any), (sA + 1, true, .any), (sA + 2, true, .any), (sA + 3, true, .any), (sD, true, .any), (sD + 1, true, .any)]).M, ¬ Q x := fun Q hQ x hx hq => by
      have := hQ x hq
      simp [frameAt, mutB] at hx
      omega
    have hL4 := (hL2.keep hr3'.keeps (kp3 _ fun x h => by omega)).keep hr4'.keeps (kp4 _ fun x h => by omega)
    have hS4 := (hS2.keep hr3'.keeps (kp3 _ fun x h => by omega)).keep hr4'.keeps (kp4 _ fun x h => by omega)
    have hW4 := (hW2.keep hr3'.keeps (kp3 _ fun x h => by omega)).keep hr4'.keeps (kp4 _ fun x h => by omega)
    have dsk : Dsk (fun x => w1.heap.size ≤ x ∧ x < m1) (fun x => m1 ≤ x ∧ x < m2) (fun x => m2 ≤ x ∧ x < w2.heap.size) sD w4 c e _ _ _ := ⟨by simpa [deskC, coC, evC, h6] using hr4.all.2.2.2.2.1.1, hL4, hS4.rd, hW4, by omega, by omega, by omega, fun x h1 h2 => by omega, fun x h1 h2 => by omega, fun x h1 h2 => by omega⟩
    obtain ⟨hcg, hop⟩ := op_ok w4 sD c e _ _ _ dsk hp hm g hg
    obtain ⟨A, hAd⟩ : ∃ A, opA c e = A := ⟨_, rfl⟩
    rw [hAd] at hop
    refine post_call g [.ptr 4 sD 0] hr4 (wanted_none rfl) rfl hcg hop ?_
    rintro e5 w5 ⟨va, B, rfl, hva, hB, hk5, hdone⟩
    refine ⟨_, rfl, ?_⟩
    obtain ⟨adv, cpv, rfl⟩ := hva.slice
    have hBf : ∀ x ∈ B, x = sD ∨ (w1.heap.size ≤ x ∧ x < w2.heap.size) := fun x hx => by
      rcases hB x hx with h | h | h
      · exact .inl h
      · exact .inr (by omega)
      · exact .inr (by omega)
    have hB4 : ∀ x, w.heap.size ≤ x → True := fun _ _ => trivial
    have hne : ∀ e ∈ [sA, sA + 1, sA + 2, sA + 3, sD + 1], e ∉ B := fun x hx hb => by
      have := hBf x hb
      simp at hx
      omega
    have z5 : w4.heap.size ≤ w5.heap.size := hk5.size
    have hdA : doA c e = A := (if_pos hm).trans hAd
    by_cases her : A.er = 0
    · have hdC : doC c e = opC c e := by unfold doC; rw [hdA, if_pos her]
      obtain ⟨uL, uS, uW, hD5, hL5, hS5, hW5⟩ := hdone her
      obtain ⟨ad5, cp5, rfl⟩ := hL5.slice
      obtain ⟨as5, cs5, rfl⟩ := hS5.slice
      obtain ⟨aw5, cw5, rfl⟩ := hW5.slice
      have hr5 := hr4.retK hk5 (fun z hz => .inl (show w.heap.size ≤ z by have := hBf z hz; omega)) 58 (.ag (ansC A (.slice adv A.L.length cpv))) rfl _ (HpAll.setK (b := sD) hk5 hD5 hr4.all (i := 4) rfl (fun x hx hxe => hne _ (by simp at hx; rcases hx with rfl | rfl | rfl | rfl | rfl | rfl <;> simp at hxe ⊢))) (by simp) rfl
      obtain ⟨er, ep, La⟩ := A
      simp only at her
      subst her
      refine seg cfg12_ok mixed PanicFree.body 1000 [false] [] hr5.rebase (by first | trivial | exact HpRep.nil | assumption) (by kernel_rfl) fun sE hsE => ?_
      simp (maxSteps := 10000000) [SX.vc, SX.stop, SX.contS, SX.contB, SX.contR, SX.contD, SX.sxStep, SX.stepPure, SX.stepNew, SX.stepStore, SX.guardIx, SX.evOp, SX.opd, SX.look, SX.putS, SX.gobs, SX.AllP, SX.leave, SX.lookT, SX.lookN, SX.evBin, SX.evInt, SX.evLoad, SX.shapeUp, SX.evFieldAddr, SX.cellsV, SX.evNew, SX.evStore, SX.spliceL, SX.SV.cells, SX.evNil, SX.TD.isAgg, SX.tails, SX.NotAgg, SX.thaw, SX.frz, SX.fixB, SX.rootIx, SX.Froz, SX.frzStep, SX.fork, Go.Value.cells, cfg12, deskC, coC, evC, ansC]
      refine ⟨by (unfold SX.Ob; first | trivial | omega | ((try simp only [SX.inK]); (try simp [SX.den, SX.IsU8, SX.AllP, *]); (try omega))), ?_⟩
      intro a6 w6 hr6' ht6
      have hr6 := hr5.unbase hr6'
      have z6 : w5.heap.size ≤ w6.heap.size := hr6'.keeps.size
      have kp6 : ∀ (Q : Nat → Prop), (∀ x, Q x → (w1.heap.size ≤ x ∧ x < w2.heap.size) ∨ (w4.heap.size ≤ x ∧ x < w5.heap.size)) → ∀ x ∈ (frameAt w5 [(sA, true, .any), (sA + 1, true, .any), (sA + 2, true, .any), (sA + 3, true, .any), (sD, true, .any), (sD + 1, true, .any)]).M, ¬ Q x := fun Q hQ x hx hq => by
        have := hQ x hq
        simp [frameAt, mutB] at hx
        omega
      have hL6 := (hL5.mono (P' := fun x => (w1.heap.size ≤ x ∧ x < w2.heap.size) ∨ (w4.heap.size ≤ x ∧ x < w5.heap.size)) fun x h0 h => by omega).keep hr6'.keeps (kp6 _ fun x h => h)
      have hS6 := (hS5.mono (P' := fun x => (w1.heap.size ≤ x ∧ x < w2.heap.size) ∨ (w4.heap.size ≤ x ∧ x < w5.heap.size)) fun x h0 h => by omega).keep hr6'.keeps (kp6 _ fun x h => h)
      have hW6 := (hW5.mono (P' := fun x => (w1.heap.size ≤ x ∧ x < w2.heap.size) ∨ (w4.heap.size ≤ x ∧ x < w5.heap.size)) fun x h0 h => by omega).keep hr6'.keeps (kp6 _ fun x h => h)
      have hv6 := (hva.mono (P' := fun x => (w1.heap.size ≤ x ∧ x < w2.heap.size) ∨ (w4.heap.size ≤ x ∧ x < w5.heap.size)) fun x h0 h => by omega).keep hr6'.keeps (kp6 _ fun x h => h)
      exact post_retn (endCC hr6 rfl rfl rfl tok31 rfl rfl tok43 rfl rfl ⟨_, _, _, .slice adv La.length cpv, by rw [hdA, hdC]; rfl, by rw [hdC]; exact ⟨hL6.mono fun x _ h => by omega, hS6.mono fun x _ h => by omega, hW6.mono fun x _ h => by omega⟩, by rw [hdA]; exact hv6.mono fun x _ h => by omega, hr6.keeps.toBelow⟩).1
    · have hdC : doC c e = c := by unfold doC; rw [hdA, if_neg her]
      have hr5 := hr4.retK hk5 (fun z hz => .inl (show w.heap.size ≤ z by have := hBf z hz; omega)) 58 (.ag (ansC A (.slice adv A.L.length cpv))) rfl _ (HpAll.setK (b := sD) (o' := .any) hk5 (show sD < w5.heap.size by omega) hr4.all (i := 4) rfl (fun x hx hxe => hne _ (by simp at hx; rcases hx with rfl | rfl | rfl | rfl | rfl | rfl <;> simp at hxe ⊢))) (by simp) rfl
      refine seg cfg12_ok mixed PanicFree.body 1000 [true] [] hr5.rebase (by first | trivial | exact HpRep.nil | assumption) (by kernel_rfl) fun sE hsE => ?_
      simp (maxSteps := 10000000) [SX.vc, SX.stop, SX.contS, SX.contB, SX.contR, SX.contD, SX.sxStep, SX.stepPure, SX.stepNew, SX.stepStore, SX.guardIx, SX.evOp, SX.opd, SX.look, SX.putS, SX.gobs, SX.AllP, SX.leave, SX.lookT, SX.lookN, SX.evBin, SX.evInt, SX.evLoad, SX.shapeUp, SX.evFieldAddr, SX.cellsV, SX.evNew, SX.evStore, SX.spliceL, SX.SV.cells, SX.TD.isAgg, SX.tails, SX.NotAgg, SX.thaw, SX.frz, SX.fixB, SX.rootIx, SX.frzStep, SX.fork, Go.Value.cells, cfg12, ansC, her]
      refine ⟨by (unfold SX.Ob; first | trivial | omega | ((try simp only [SX.inK]); (try simp [SX.den, SX.IsU8, SX.AllP, *]); (try omega))), ?_⟩
      intro a6 w6 hr6' ht6
      have hr6 := hr5.unbase hr6'
      have z6 : w5.heap.size ≤ w6.heap.size := hr6'.keeps.size
      have hv5 := hva.mono (P' := fun x => w4.heap.size ≤ x ∧ x < w5.heap.size) fun x h0 h => ⟨h, h0⟩
      have hv6 := hv5.keep hr6'.keeps (fun x hx hq => by simp [mutB] at hx; omega)
      refine post_callD3 21 [.ag (coC c (.slice aL c.T.L.length cL) (.slice aS c.S.length cS) (.slice aW c.W.length cW))] hr6 rfl (wanted_none rfl) rfl (callable 21 Try.func21) (copied_ok w6 c _ _ _ (hc.below hr6.keeps.toBelow) (by omega) n2 (by omega) (by omega)) ?_
      rintro e7 w7 ⟨uL, uS, uW, k1, k2, rfl, hk0, hk1, hk2, hL7, hS7, hW7, hb7⟩
      have ht7 := HpRep_below ht6 hb7
      refine ⟨_, rfl, HpRep_frz ht7, ?_⟩
      have hr7 := hr6.ret hb7 63 (.ag (coC c uL uS uW)) rfl _ (hr6.all.below hb7) (by simp) rfl
      obtain ⟨ad7, cp7, rfl⟩ := hL7.slice
      obtain ⟨as7, cs7, rfl⟩ := hS7.slice
      obtain ⟨aw7, cw7, rfl⟩ := hW7.slice
      have q6 := hpLt hr6.all
      simp at q6
      refine seg cfg12_ok mixed PanicFree.body 1000 [] [] hr7.rebase (by first | trivial | exact HpRep.nil | assumption) (by kernel_rfl) fun s_ hs_ => ?_
      simp (maxSteps := 10000000) [SX.vc, SX.stop, SX.contS, SX.contD, SX.sxStep, SX.stepPure, SX.stepNew, SX.stepStore, SX.guardIx, SX.evOp, SX.opd, SX.look, SX.putS, SX.AllP, SX.leave, SX.lookT, SX.evNew, SX.evStore, SX.spliceL, SX.SV.cells, SX.tails, SX.NotAgg, SX.frz, SX.Froz, SX.frzStep, cfg12, coC]
      refine ⟨by (unfold SX.Ob; first | trivial | omega | ((try simp only [SX.inK]); (try simp [SX.den, SX.IsU8, SX.AllP, *]); (try omega))), ?_⟩
      intro a8 w8 hr8' ht8
      have hr8 := hr7.unbase hr8'
      have kp8 : ∀ (Q : Nat → Prop), (∀ x, Q x → w6.heap.size ≤ x ∨ (w4.heap.size ≤ x ∧ x < w5.heap.size)) → ∀ x ∈ (frameAt w7 [(sA, true, .any), (sA + 1, true, .any), (sA + 2, true, .any), (sA + 3, true, .any), (sD, true, .any), (sD + 1, true, .any), (sE, true, .any)]).M, ¬ Q x := fun Q hQ x hx hq => by
        have := hQ x hq
        simp [frameAt, mutB] at hx
        omega
      have hL8 := (hL7.mono (P' := fun x => w6.heap.size ≤ x ∨ (w4.heap.size ≤ x ∧ x < w5.heap.size)) fun x h0 h => by omega).keep hr8'.keeps (kp8 _ fun x h => h)
      have hS8 := (hS7.mono (P' := fun x => w6.heap.size ≤ x ∨ (w4.heap.size ≤ x ∧ x < w5.heap.size)) fun x h0 h => by omega).keep hr8'.keeps (kp8 _ fun x h => h)
      have hW8 := (hW7.mono (P' := fun x => w6.heap.size ≤ x ∨ (w4.heap.size ≤ x ∧ x < w5.heap.size)) fun x h0 h => by omega).keep hr8'.keeps (kp8 _ fun x h => h)
      have hv8 := ((hv6.below hb7).mono (P' := fun x => w6.heap.size ≤ x ∨ (w4.heap.size ≤ x ∧ x < w5.heap.size)) fun x h0 h => .inr h).keep hr8'.keeps (kp8 _ fun x h => h)
      exact post_retn (endCC hr8 rfl rfl rfl tok31 rfl rfl tok43 rfl rfl ⟨_, _, _, .slice adv A.L.length cpv, by rw [hdA, hdC]; rfl, by rw [hdC]; exact ⟨hL8.rd.mono fun x _ h => by omega, hS8.rd.mono fun x _ h => by omega, hW8.rd.mono fun x _ h => by omega⟩, by rw [hdA]; exact hv8.mono fun x _ h => by omega, hr8.keeps.toBelow⟩).1
  · have h7 : ¬ e.h < 0 := by omega
    have h8 : ¬ 8 ≤ e.h := by omega
    refine seg cfg12_ok mixed PanicFree.body 1000 [false] [(43, true), (47, false)] hi7 (by first | trivial | exact HpRep.nil | assumption) (by kernel_rfl) fun s_ hs_ => ?_
    simp (maxSteps := 10000000) [SX.vc, SX.stop, SX.contS, SX.contB, SX.sxStep, SX.stepPure, SX.stepNew, SX.stepStore, SX.guardIx, SX.evOp, SX.opd, SX.look, SX.putS, SX.gobs, SX.AllP, SX.leave, SX.lookC, SX.lookB, SX.lookT, SX.findK, SX.evBin, SX.evInt, SX.evEq, SX.evLoad, SX.shapeUp, SX.evFieldAddr, SX.evNew, SX.evStore, SX.evPick, SX.pickOpd, SX.cnd, SX.TD.isAgg, SX.evLookup, cfg12, hmk, h6, h7, h8]
    refine ⟨by (unfold SX.Ob; first | trivial | omega | ((try simp only [SX.inK]); (try simp [SX.den, SX.IsU8, SX.AllP, *]); (try omega))), ?_⟩
    intro a4 w4 hr4' _
    have hr4 := hr3.unbase hr4'
    have q4 := hpLt hr4.all
    simp at q4
    have z4 : w3.heap.size ≤ w4.heap.size := hr4'.keeps.size
    have kp3 : ∀ (Q : Nat → Prop), (∀ x, Q x → w1.heap.size ≤ x ∧ x < w2.heap.size) → ∀ x ∈ (frameAt w2 [(sA, true, .any), (sA + 1, true, .any), (sA + 2, true, .any), (sA + 3, true, .any)]).M, ¬ Q x := fun Q hQ x hx hq => by
      have := hQ x hq
      simp [frameAt, mutB] at hx
      omega
    have kp4 : ∀ (Q : Nat → Prop), (∀ x, Q x → w1.heap.size ≤ x ∧ x < w2.heap.size) → ∀ x ∈ (frameAt w3 [(sA, true, .any), (sA + 1, true, .any), (sA + 2, true, .any), (sA + 3, true, .any), (sD, true, .any), (sD + 1, true, .any)]).M, ¬ Q x := fun Q hQ x hx hq => by
      have := hQ x hq
      simp [frameAt, mutB] at hx
      omega
    have hL4 := (hL2.keep hr3'.keeps (kp3 _ fun x h => by omega)).keep hr4'.keeps (kp4 _ fun x h => by omega)
    have hS4 := (hS2.keep hr3'.keeps (kp3 _ fun x h => by omega)).keep hr4'.keeps (kp4 _ fun x h => by omega)
    have hW4 := (hW2.keep hr3'.keeps (kp3 _ fun x h => by omega)).keep hr4'.keeps (kp4 _ fun x h => by omega)
    have dsk : Dsk (fun x => w1.heap.size ≤ x ∧ x < m1) (fun x => m1 ≤ x ∧ x < m2) (fun x => m2 ≤ x ∧ x < w2.heap.size) sD w4 c e _ _ _ := ⟨hr4.all.2.2.2.2.1.1, hL4, hS4.rd, hW4, by omega, by omega, by omega, fun x h1 h2 => by omega, fun x h1 h2 => by omega, fun x h1 h2 => by omega⟩
    obtain ⟨hcg, hop⟩ := op_ok w4 sD c e _ _ _ dsk hp hm g hg
    obtain ⟨A, hAd⟩ : ∃ A, opA c e = A := ⟨_, rfl⟩
    rw [hAd] at hop
    refine post_call g [.ptr 4 sD 0] hr4 (wanted_none rfl) rfl hcg hop ?_
    rintro e5 w5 ⟨va, B, rfl, hva, hB, hk5, hdone⟩
    refine ⟨_, rfl, ?_⟩
    obtain ⟨adv, cpv, rfl⟩ := hva.slice
    have hBf : ∀ x ∈ B, x = sD ∨ (w1.heap.size ≤ x ∧ x < w2.heap.size) := fun x hx => by
      rcases hB x hx with h | h | h
      · exact .inl h
      · exact .inr (by omega)
      · exact .inr (by omega)
    have hB4 : ∀ x, w.heap.size ≤ x → True := fun _ _ => trivial
    have hne : ∀ e ∈ [sA, sA + 1, sA + 2, sA + 3, sD + 1], e ∉ B := fun x hx hb => by
      have := hBf x hb
      simp at hx
      omega
    have z5 : w4.heap.size ≤ w5.heap.size := hk5.size
    have hdA : doA c e = A := (if_pos hm).trans hAd
    by_cases her : A.er = 0
    · have hdC : doC c e = opC c e := by unfold doC; rw [hdA, if_pos her]
      obtain ⟨uL, uS, uW, hD5, hL5, hS5, hW5⟩ := hdone her
      obtain ⟨ad5, cp5, rfl⟩ := hL5.slice
      obtain ⟨as5, cs5, rfl⟩ := hS5.slice
      obtain ⟨aw5, cw5, rfl⟩ := hW5.slice
      have hr5 := hr4.retK hk5 (fun z hz => .inl (show w.heap.size ≤ z by have := hBf z hz; omega)) 58 (.ag (ansC A (.slice adv A.L.length cpv))) rfl _ (HpAll.setK (b := sD) hk5 hD5 hr4.all (i := 4) rfl (fun x hx hxe => hne _ (by simp at hx; rcases hx with rfl | rfl | rfl | rfl | rfl | rfl <;> simp at hxe ⊢))) (by simp) rfl
      obtain ⟨er, ep, La⟩ := A
      simp only at her
      subst her
      refine seg cfg12_ok mixed PanicFree.body 1000 [false] [] hr5.rebase (by first | trivial | exact HpRep.nil | assumption) (by kernel_rfl) fun sE hsE => ?_
      simp (maxSteps := 10000000) [SX.vc, SX.stop, SX.contS, SX.contB, SX.contR, SX.contD, SX.sxStep, SX.stepPure, SX.stepNew, SX.stepStore, SX.guardIx, SX.evOp, SX.opd, SX.look, SX.putS, SX.gobs, SX.AllP, SX.leave, SX.lookT, SX.lookN, SX.evBin, SX.evInt, SX.evLoad, SX.shapeUp, SX.evFieldAddr, SX.cellsV, SX.evNew, SX.evStore, SX.spliceL, SX.SV.cells, SX.evNil, SX.TD.isAgg, SX.tails, SX.NotAgg, SX.thaw, SX.frz, SX.fixB, SX.rootIx, SX.Froz, SX.frzStep, SX.fork, Go.Value.cells, cfg12, deskC, coC, evC, ansC]
      refine ⟨by (unfold SX.Ob; first | trivial | omega | ((try simp only [SX.inK]); (try simp [SX.den, SX.IsU8, SX.AllP, *]); (try omega))), ?_⟩
      intro a6 w6 hr6' ht6
      have hr6 := hr5.unbase hr6'
      have z6 : w5.heap.size ≤ w6.heap.size := hr6'.keeps.size
      have kp6 : ∀ (Q : Nat → Prop), (∀ x, Q x → (w1.heap.size ≤ x ∧ x < w2.heap.size) ∨ (w4.heap.size ≤ x ∧ x < w5.heap.size)) → ∀ x ∈ (frameAt w5 [(sA, true, .any), (sA + 1, true, .any), (sA + 2, true, .any), (sA + 3, true, .any), (sD, true, .any), (sD + 1, true, .any)]).M, ¬ Q x := fun Q hQ x hx hq => by
        have := hQ x hq
        simp [frameAt, mutB] at hx
        omega
      have hL6 := (hL5.mono (P' := fun x => (w1.heap.size ≤ x ∧ x < w2.heap.size) ∨ (w4.heap.size ≤ x ∧ x < w5.heap.size)) fun x h0 h => by omega).keep hr6'.keeps (kp6 _ fun x h => h)
      have hS6 := (hS5.mono (P' := fun x => (w1.heap.size ≤ x ∧ x < w2.heap.size) ∨ (w4.heap.size ≤ x ∧ x < w5.heap.size)) fun x h0 h => by omega).keep hr6'.keeps (kp6 _ fun x h => h)
      have hW6 := (hW5.mono (P' := fun x => (w1.heap.size ≤ x ∧ x < w2.heap.size) ∨ (w4.heap.size ≤ x ∧ x < w5.heap.size)) fun x h0 h => by omega).keep hr6'.keeps (kp6 _ fun x h => h)
      have hv6 := (hva.mono (P' := fun x => (w1.heap.size ≤ x ∧ x < w2.heap.size) ∨ (w4.heap.size ≤ x ∧ x < w5.heap.size)) fun x h0 h => by omega).keep hr6'.keeps (kp6 _ fun x h => h)
      exact post_retn (endCC hr6 rfl rfl rfl tok31 rfl rfl tok43 rfl rfl ⟨_, _, _, .slice adv La.length cpv, by rw [hdA, hdC]; rfl, by rw [hdC]; exact ⟨hL6.mono fun x _ h => by omega, hS6.mono fun x _ h => by omega, hW6.mono fun x _ h => by omega⟩, by rw [hdA]; exact hv6.mono fun x _ h => by omega, hr6.keeps.toBelow⟩).1
    · have hdC : doC c e = c := by unfold doC; rw [hdA, if_neg her]
      have hr5 := hr4.retK hk5 (fun z hz => .inl (show w.heap.size ≤ z by have := hBf z hz; omega)) 58 (.ag (ansC A (.slice adv A.L.length cpv))) rfl _ (HpAll.setK (b := sD) (o' := .any) hk5 (show sD < w5.heap.size by omega) hr4.all (i := 4) rfl (fun x hx hxe => hne _ (by simp at hx; rcases hx with rfl | rfl | rfl | rfl | rfl | rfl <;> simp at hxe ⊢))) (by simp) rfl
      refine seg cfg12_ok mixed PanicFree.body 1000 [true] [] hr5.rebase (by first | trivial | exact HpRep.nil | assumption) (by kernel_rfl) fun sE hsE => ?_
      simp (maxSteps := 10000000) [SX.vc, SX.stop, SX.contS, SX.contB, SX.contR, SX.contD, SX.sxStep, SX.stepPure, SX.stepNew, SX.stepStore, SX.guardIx, SX.evOp, SX.opd, SX.look, SX.putS, SX.gobs, SX.AllP, SX.leave, SX.lookT, SX.lookN, SX.evBin, SX.evInt, SX.evLoad, SX.shapeUp, SX.evFieldAddr, SX.cellsV, SX.evNew, SX.evStore, SX.spliceL, SX.SV.cells, SX.TD.isAgg, SX.tails, SX.NotAgg, SX.thaw, SX.frz, SX.fixB, SX.rootIx, SX.frzStep, SX.fork, Go.Value.cells, cfg12, ansC, her]
      refine ⟨by (unfold SX.Ob; first | trivial | omega | ((try simp only [SX.inK]); (try simp [SX.den, SX.IsU8, SX.AllP, *]); (try omega))), ?_⟩
      intro a6 w6 hr6' ht6
      have hr6 := hr5.unbase hr6'
      have z6 : w5.heap.size ≤ w6.heap.size := hr6'.keeps.size
      have hv5 := hva.mono (P' := fun x => w4.heap.size ≤ x ∧ x < w5.heap.size) fun x h0 h => ⟨h, h0⟩
      have hv6 := hv5.keep hr6'.keeps (fun x hx hq => by simp [mutB] at hx; omega)
      refine post_callD3 21 [.ag (coC c (.slice aL c.T.L.length cL) (.slice aS c.S.length cS) (.slice aW c.W.length cW))] hr6 rfl (wanted_none rfl) rfl (callable 21 Try.func21) (copied_ok w6 c _ _ _ (hc.below hr6.keeps.toBelow) (by omega) n2 (by omega) (by omega)) ?_
      rintro e7 w7 ⟨uL, uS, uW, k1, k2, rfl, hk0, hk1, hk2, hL7, hS7, hW7, hb7⟩
      have ht7 := HpRep_below ht6 hb7
      refine ⟨_, rfl, HpRep_frz ht7, ?_⟩
      have hr7 := hr6.ret hb7 63 (.ag (coC c uL uS uW)) rfl _ (hr6.all.below hb7) (by simp) rfl
      obtain ⟨ad7, cp7, rfl⟩ := hL7.slice
      obtain ⟨as7, cs7, rfl⟩ := hS7.slice
      obtain ⟨aw7, cw7, rfl⟩ := hW7.slice
      have q6 := hpLt hr6.all
      simp at q6
      refine seg cfg12_ok mixed PanicFree.body 1000 [] [] hr7.rebase (by first | trivial | exact HpRep.nil | assumption) (by kernel_rfl) fun s_ hs_ => ?_
      simp (maxSteps := 10000000) [SX.vc, SX.stop, SX.contS, SX.contD, SX.sxStep, SX.stepPure, SX.stepNew, SX.stepStore, SX.guardIx, SX.evOp, SX.opd, SX.look, SX.putS, SX.AllP, SX.leave, SX.lookT, SX.evNew, SX.evStore, SX.spliceL, SX.SV.cells, SX.tails, SX.NotAgg, SX.frz, SX.Froz, SX.frzStep, cfg12, coC]
      refine ⟨by (unfold SX.Ob; first | trivial | omega | ((try simp only [SX.inK]); (try simp [SX.den, SX.IsU8, SX.AllP, *]); (try omega))), ?_⟩
      intro a8 w8 hr8' ht8
      have hr8 := hr7.unbase hr8'
      have kp8 : ∀ (Q : Nat → Prop), (∀ x, Q x → w6.heap.size ≤ x ∨ (w4.heap.size ≤ x ∧ x < w5.heap.size)) → ∀ x ∈ (frameAt w7 [(sA, true, .any), (sA + 1, true, .any), (sA + 2, true, .any), (sA + 3, true, .any), (sD, true, .any), (sD + 1, true, .any), (sE, true, .any)]).M, ¬ Q x := fun Q hQ x hx hq => by
        have := hQ x hq
        simp [frameAt, mutB] at hx
        omega
      have hL8 := (hL7.mono (P' := fun x => w6.heap.size ≤ x ∨ (w4.heap.size ≤ x ∧ x < w5.heap.size)) fun x h0 h => by omega).keep hr8'.keeps (kp8 _ fun x h => h)
      have hS8 := (hS7.mono (P' := fun x => w6.heap.size ≤ x ∨ (w4.heap.size ≤ x ∧ x < w5.heap.size)) fun x h0 h => by omega).keep hr8'.keeps (kp8 _ fun x h => h)
      have hW8 := (hW7.mono (P' := fun x => w6.heap.size ≤ x ∨ (w4.heap.size ≤ x ∧ x < w5.heap.size)) fun x h0 h => by omega).keep hr8'.keeps (kp8 _ fun x h => h)
      have hv8 := ((hv6.below hb7).mono (P' := fun x => w6.heap.size ≤ x ∨ (w4.heap.size ≤ x ∧ x < w5.heap.size)) fun x h0 h => .inr h).keep hr8'.keeps (kp8 _ fun x h => h)
      exact post_retn (endCC hr8 rfl rfl rfl tok31 rfl rfl tok43 rfl rfl ⟨_, _, _, .slice adv A.L.length cpv, by rw [hdA, hdC]; rfl, by rw [hdC]; exact ⟨hL8.rd.mono fun x _ h => by omega, hS8.rd.mono fun x _ h => by omega, hW8.rd.mono fun x _ h => by omega⟩, by rw [hdA]; exact hv8.mono fun x _ h => by omega, hr8.keeps.toBelow⟩).1
end Go.Proofs.C8
