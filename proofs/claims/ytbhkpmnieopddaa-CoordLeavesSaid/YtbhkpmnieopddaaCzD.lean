/- CzD: texts of this proof, joined. -/
import Derived.Test.YtbhkpmnieopddaaF2
set_option linter.unusedVariables false
set_option linter.unusedSimpArgs false
set_option linter.unusedSectionVars false
namespace Go.Proofs.C8
open Go Go.Proofs Go.SX Go.RowKit Go.Proofs.L6
def lvEv (g ep : Int) : Evt := ⟨8, g, 0, ep, 0, 0, 0, 2000 + g⟩
def znEv (g : Int) : Evt := ⟨2, g, 0, 0, 0, 0, 0, 0⟩
theorem leave_facts {n : Nat} {c : Co} (I : Inv n c) {g : Int} (h0 : 0 ≤ g) (h8 : g < 8) (hH : HasT c.T (2000 + g)) :
    doA c (lvEv g (holdX c.T (2000 + g)).e) = noA 0 ∧ ∀ d, doC c (lvEv g (holdX c.T (2000 + g)).e) = d → ¬ memP d g ∧ (∀ s ∈ d.S, s.ow ≠ g) ∧ (∀ f ∈ d.W, f.h ≠ g) ∧ d.zn = c.zn ∧ (∀ z, z < 2000 → ownH d z = ownH c z ∧ ownE d z = ownE c z) ∧ doA d (znEv g) = noA 4 := by
  obtain ⟨x, hx⟩ : ∃ x, holdX c.T (2000 + g) = x := ⟨_, rfl⟩
  have hxg : x = getK c.T.L (2000 + g) := hx.symm.trans (if_pos hH)
  obtain ⟨g1, g2⟩ := hasK_get hH.2
  rw [← hxg] at g1 g2
  rw [hx]
  have z8 := I.z8
  have hxh : x.h = g := by
    rcases I.ks x g1 with h | h | h <;> omega
  have hrev : revE c.T (2000 + g) = 0 := by rw [revE, if_pos I.T, if_pos hH.2]
  have hA : doA c (lvEv g x.e) = noA 0 := by
    have hm : may (lvEv g x.e) := ⟨show (1 : Int) ≤ 8 by decide, show (8 : Int) ≤ 8 by decide, fun _ => ⟨h0, h8⟩⟩
    unfold doA
    rw [if_pos hm]
    show leaveA c (lvEv g x.e) = noA 0
    unfold leaveA
    have hH' : HasT c.T (lvEv g x.e).key := hH
    rw [if_neg (not_not_intro hH')]
    show (if (holdX c.T (2000 + g)).h ≠ g ∨ (holdX c.T (2000 + g)).e ≠ x.e then noA 61 else noA (revE c.T (2000 + g))) = noA 0
    rw [hx, if_neg (by rw [hxh]; simp), hrev]
  refine ⟨hA, fun d hd => ?_⟩
  have hle : (leaveA c (lvEv g x.e)).er = 0 := by
    have hm : may (lvEv g x.e) := ⟨show (1 : Int) ≤ 8 by decide, show (8 : Int) ≤ 8 by decide, fun _ => ⟨h0, h8⟩⟩
    have : doA c (lvEv g x.e) = leaveA c (lvEv g x.e) := by
      unfold doA
      rw [if_pos hm]
      rfl
    rw [← this, hA]
    rfl
  have hC : doC c (lvEv g x.e) = leaveC c (lvEv g x.e) := by
    unfold doC
    rw [hA]
    rfl
  have e1 : revT c.T (2000 + g) = ⟨c.T.last, c.T.now, delK (2000 + g) c.T.L⟩ := if_pos hrev
  have hD : d = goneC { c with T := ⟨c.T.last, c.T.now, delK (2000 + g) c.T.L⟩ } [x] := by
    rw [← hd, hC]
    show gone1 { c with T := revT c.T (2000 + g) } (holdX c.T (2000 + g)) = _
    rw [e1, hx]
    rfl
  have Id : Inv n d := by
    rw [← hd, hC]
    exact inv_leave I hle
  have hk : ∀ l ∈ [x], l.k < 2008 := fun l hl => by
    rw [List.mem_singleton.1 hl]
    omega
  obtain ⟨f1, f2, f3, f4, f5⟩ := gone_facts [x] { c with T := ⟨c.T.last, c.T.now, delK (2000 + g) c.T.L⟩ } I.S hk
  obtain ⟨l1, l2, l3, l4, l5⟩ := goneC_len (c := { c with T := ⟨c.T.last, c.T.now, delK (2000 + g) c.T.L⟩ }) [x]
  rw [← hD] at f1 f2 f3 f4 f5 l1 l2 l3 l4 l5
  have hnm : ¬ memP d g := fun h => by
    obtain ⟨_, _, y, hy, hyk⟩ := (Id.mem g).1 h
    rw [l3] at hy
    have := (List.mem_filter.1 hy).2
    simp at this
    exact this hyk
  have hzn : d.zn = c.zn := l5
  refine ⟨hnm, fun s hs ho => ?_, fun f hf hfh => ?_, hzn, fun z hz => ?_, ?_⟩
  · obtain ⟨j, hj, hjs⟩ := List.mem_iff_getElem.1 hs
    have h1 := S7.chkS_nth f1.1 hj
    rw [nth_lt hj, hjs] at h1
    have h2 : S7.HasS d.S s.fr (s.ow, s.ep) := ⟨s, hs, ⟨Int.le_refl _, h1.1⟩, rfl⟩
    rcases f3 _ _ h2 with h3 | ⟨_, h3⟩
    · have : s.ow = -1 := h3
      omega
    · have := h3 x (by simp)
      have : x.k ≠ 2000 + s.ow := this
      omega
  · have := f5 f hf x (by simp) (by omega)
    omega
  · have hsame := same_key (t := c.T) (u := d.T) (key := z) I.T Id.T fun y hy => by
      rw [l3]
      show y ∈ delK (2000 + g) c.T.L ↔ _
      unfold delK
      rw [List.mem_filter]
      exact ⟨fun h => h.1, fun h => ⟨h, by simp; omega⟩⟩
    unfold ownH ownE whoH whoE
    rw [hzn, hsame.2]
    by_cases ht : HasT c.T z
    · rw [if_pos ht, if_pos ht, if_pos (hsame.1.2 ht), if_pos (hsame.1.2 ht)]
      exact ⟨rfl, rfl⟩
    · rw [if_neg ht, if_neg ht, if_neg (fun h => ht (hsame.1.1 h)), if_neg (fun h => ht (hsame.1.1 h))]
      exact ⟨rfl, rfl⟩
  · have hm : may (znEv g) := ⟨show (1 : Int) ≤ 2 by decide, show (2 : Int) ≤ 8 by decide, fun _ => ⟨h0, h8⟩⟩
    unfold doA
    rw [if_pos hm]
    show zoneA d (znEv g) = noA 4
    unfold zoneA
    have hz1 := I.z1
    rw [if_neg (by show ¬ ((0 : Int) < 0 ∨ d.zn ≤ 0); rw [hzn]; omega)]
    have hnm' : ¬ memP d (znEv g).h := hnm
    rw [if_pos hnm']
set_option maxRecDepth 100000 in
set_option maxHeartbeats 64000000 in
theorem leaves_ok {P : Nat → Prop} (w : World) (z t host : Int) (v : Value) (L : List Evt) (hL : RdE P w v L) (hn : L.length ≤ 1000000000000000) : Calls Try.prog 3 (denL [.v (.int .i64 z), .v (.int .i64 t), .v v, .v (.int .i64 host)]).toArray w (Ret w (.v (.bool true))) := by
  obtain ⟨adE, cpE, rfl⟩ := hL.slice
  refine enter (F := frame0 w) Try.func3 rfl [.v (.int .i64 z), .v (.int .i64 t), .v (.slice adE L.length cpE), .v (.int .i64 host)] [] (by simp [Try.f3]) trivial (keeps0 w) fun a hr => ?_
  have q8 := tmod_pos (x := host) (n := 8) (by decide)
  have r8 : host.tmod 8 < 8 := Int.tmod_lt_of_pos _ (by decide)
  have s8 : -8 < host.tmod 8 := by
    have := Int.lt_tmod_of_pos host (show (0 : Int) < 8 by decide)
    omega
  refine seg cfg3_ok mixed PanicFree.body 1000 [] [] hr (by first | trivial | exact HpRep.nil | assumption) (by kernel_rfl) fun s_ hs_ => ?_
  simp (maxSteps := 10000000) [SX.vc, SX.stop, SX.contS, SX.sxStep, SX.stepPure, SX.stepNew, SX.stepStore, SX.guardIx, SX.evOp, SX.opd, SX.putS, SX.gobs, SX.AllP, SX.leave, SX.evNew, SX.evStore, SX.env0, cfg3, Try.f3]
  refine ⟨by (unfold SX.Ob; first | trivial | omega | ((try simp only [SX.inK]); (try simp [SX.den, SX.IsU8, SX.AllP, *]); (try omega))), ?_⟩
  intro a1 w1 hr1 _
  refine post_call 7 [] hr1 (by first | exact wanted_none rfl | exact wanted_zero (hr1.env.same rfl rfl rfl rfl) rfl (by simp) | exact wanted_zero (hr1.env.same rfl rfl rfl rfl) rfl (by simp [*])) rfl (callable 7 Try.func7) (live_ok w1) ?_
  rintro e2 w2 ⟨rfl, hb2⟩
  refine ⟨_, rfl, ?_⟩
  have h2 := hr1.ret hb2 27 (.v (.bool true)) rfl _ (hr1.all.below hb2) (by simp) rfl
  refine seg cfg3_ok mixed PanicFree.body 1000 [] [] h2 (by first | trivial | exact HpRep.nil | assumption) (by kernel_rfl) fun s_ hs_ => ?_
  simp (maxSteps := 10000000) [SX.vc, SX.stop, SX.contS, SX.sxStep, SX.stepPure, SX.stepNew, SX.stepStore, SX.guardIx, SX.evOp, SX.opd, SX.look, SX.putS, SX.gobs, SX.AllP, SX.leave, SX.evNew, SX.evStore, cfg3]
  refine ⟨by (unfold SX.Ob; first | trivial | omega | ((try simp only [SX.inK]); (try simp [SX.den, SX.IsU8, SX.AllP, *]); (try omega))), ?_⟩
  intro a3 w3 hr3 _
  refine post_call 8 [.v (.slice adE L.length cpE)] hr3 (by first | exact wanted_none rfl | exact wanted_zero (hr3.env.same rfl rfl rfl rfl) rfl (by simp) | exact wanted_zero (hr3.env.same rfl rfl rfl rfl) rfl (by simp [*])) rfl (callable 8 Try.func8) (few_ok w3 _ L (hL.below hr3.keeps.toBelow) hn) ?_
  rintro e4 w4 ⟨rfl, hb4⟩
  refine ⟨_, rfl, ?_⟩
  have h4 := hr3.ret hb4 29 (.v (.bool (decide (FewP L)))) rfl _ (hr3.all.below hb4) (by simp) rfl
  by_cases hf : FewP L
  rotate_left
  · have hfd : decide (FewP L) = false := decide_eq_false hf
    refine seg cfg3_ok mixed PanicFree.body 1000 [true] [] h4 (by first | trivial | exact HpRep.nil | assumption) (by kernel_rfl) fun s_ hs_ => ?_
    simp (maxSteps := 10000000) [SX.vc, SX.stop, SX.contS, SX.contB, SX.sxStep, SX.stepPure, SX.guardIx, SX.evOp, SX.opd, SX.look, SX.putS, SX.gobs, SX.AllP, SX.leave, SX.evUn, cfg3, hfd]
    refine ⟨by (unfold SX.Ob; first | trivial | omega | ((try simp only [SX.inK]); (try simp [SX.den, SX.IsU8, SX.AllP, *]); (try omega))), ?_⟩
    intro a5 w5 hr5 _
    exact post_retn (end1 hr5 rfl rfl ⟨rfl, hr5.keeps.toBelow⟩).1
  have hfd : decide (FewP L) = true := decide_eq_true hf
  obtain ⟨hf1, hf2⟩ := hf
  refine seg cfg3_ok mixed PanicFree.body 1000 [false] [] h4 (by first | trivial | exact HpRep.nil | assumption) (by kernel_rfl) fun s_ hs_ => ?_
  simp (maxSteps := 10000000) [SX.vc, SX.stop, SX.contS, SX.contB, SX.sxStep, SX.stepPure, SX.stepNew, SX.stepStore, SX.guardIx, SX.evOp, SX.opd, SX.look, SX.putS, SX.gobs, SX.AllP, SX.leave, SX.evBin, SX.evInt, SX.arith, SX.evNew, SX.evStore, SX.evUn, cfg3, hfd]
  refine ⟨by (unfold SX.Ob; first | trivial | omega | ((try simp only [SX.inK]); (try simp [SX.den, SX.IsU8, SX.AllP, *]); (try omega))), ?_⟩
  intro a5 w5 hr5 _
  obtain ⟨g, hg⟩ : ∃ g, (host.tmod 8 + 8).tmod 8 = g := ⟨_, rfl⟩
  rw [hg] at q8
  have h5 := hr5.top 3 (.v (.int .i64 g)) rfl (by simp [den, hg])
  refine post_call 9 [.v (.int .i64 z), .v (.int .i64 t)] h5 (by first | exact wanted_none rfl | exact wanted_zero (h5.env.same rfl rfl rfl rfl) rfl (by simp) | exact wanted_zero (h5.env.same rfl rfl rfl rfl) rfl (by simp [*])) rfl (callable 9 Try.func9) (begin_ok w5 z t) ?_
  rintro e6 w6 ⟨vS, rfl, hS6, hb6⟩
  refine ⟨_, rfl, ?_⟩
  have h6 := h5.ret hb6 39 (.tu [.ag (coC (co0 (bgz z) 60 (bgt t)) (.slice none 0 0) vS (.slice none 0 0)), .v (.bool true)]) rfl _ (h5.all.below hb6) (by simp) rfl
  obtain ⟨aS, cS, rfl⟩ := hS6.slice
  refine seg cfg3_ok mixed PanicFree.body 1000 [false] [] h6.rebase (by first | trivial | exact HpRep.nil | assumption) (by kernel_rfl) fun sA hsA => ?_
  simp (maxSteps := 10000000) [SX.vc, SX.stop, SX.contS, SX.contB, SX.sxStep, SX.stepPure, SX.stepNew, SX.stepStore, SX.guardIx, SX.evOp, SX.opd, SX.look, SX.putS, SX.gobs, SX.AllP, SX.leave, SX.lookT, SX.evLoad, SX.shapeUp, SX.cellsV, SX.evNew, SX.evStore, SX.spliceL, SX.SV.cells, SX.evUn, SX.TD.isAgg, SX.NotAgg, Go.Value.cells, cfg3, coC, co0]
  refine ⟨by (unfold SX.Ob; first | trivial | omega | ((try simp only [SX.inK]); (try simp [SX.den, SX.IsU8, SX.AllP, *]); (try omega))), ?_⟩
  intro a7 w7 hr7' _
  have hr7 := h6.unbase hr7'
  have z5 : w.heap.size ≤ w5.heap.size := hr5.keeps.size
  have z6 : w5.heap.size ≤ w6.heap.size := hb6.size
  have z7 : w6.heap.size ≤ w7.heap.size := hr7'.keeps.size
  have q7 := hpLt hr7.all
  simp at q7
  have hS7 : RdP (fun _ => True) w7 (.slice aS 1 cS) [⟨0, 60, -1, 0⟩] := (hS6.keep hr7'.keeps (by simp [mutB])).mono fun _ _ _ => trivial
  have zz := bgz_pos z
  have tt := bgt_pos t
  have I0 := inv_0 zz.1 zz.2 tt.1 tt.2
  have hL7 : RdE (fun _ => True) w7 (.slice adE L.length cpE) L := (hL.below hr7.keeps.toBelow).mono fun _ _ _ => trivial
  have hpre : ∀ k, k < L.length → Pre (allC (co0 (bgz z) 60 (bgt t)) (L.take k)) (nth evt0 L k) := fun k hk => (inv_all (L.take k) I0 fun x hx => hf1 x (List.mem_of_mem_take hx)).pre (by simp; omega) _
  have hall := all_ok w7 (co0 (bgz z) 60 (bgt t)) L (.slice none 0 0) (.slice aS 1 cS) (.slice none 0 0) _ ⟨OwS.nil.rd, hS7, OwS.nil.rd⟩ hL7 (by omega) (I0.pre (by omega) evt0).sm hpre
  have I := inv_all L I0 hf1
  obtain ⟨c, hc⟩ : ∃ c, allC (co0 (bgz z) 60 (bgt t)) L = c := ⟨_, rfl⟩
  unfold AllR at hall
  rw [hc] at hall I
  refine post_call 10 [.ag (coC (co0 (bgz z) 60 (bgt t)) (.slice none 0 0) (.slice aS 1 cS) (.slice none 0 0)), .v (.slice adE L.length cpE)] hr7 (wanted_none rfl) rfl (callable 10 Try.func10) hall ?_
  rintro e8 w8 ⟨uL, uS, uW, vA, As, Bo, rfl, hC8, hBo, hA8, hAl, hAn, hb8⟩
  refine ⟨_, rfl, ?_⟩
  have n1 := I.nL
  have n2 := I.nS
  have n3 := I.nW
  obtain ⟨aL, cL, rfl⟩ := hC8.1.slice
  obtain ⟨aS, cS, rfl⟩ := hC8.2.1.slice
  obtain ⟨aW, cW, rfl⟩ := hC8.2.2.slice
  obtain ⟨aA, cA, rfl⟩ := hA8.slice
  have z8 : w7.heap.size ≤ w8.heap.size := hb8.size
  have hr8 := hr7.ret hb8 47 (.tu [.ag (coC c (.slice aL c.T.L.length cL) (.slice aS c.S.length cS) (.slice aW c.W.length cW)), .v (.slice aA As.length cA)]) rfl _ (hr7.all.below hb8) (by simp) rfl
  refine seg cfg3_ok mixed PanicFree.body 1000 [] [] hr8.rebase (by first | trivial | exact HpRep.nil | assumption) (by kernel_rfl) fun s_ hs_ => ?_
  simp (maxSteps := 10000000) [SX.vc, SX.stop, SX.contS, SX.contB, SX.contW, SX.sxStep, SX.stepPure, SX.stepNew, SX.stepStore, SX.guardIx, SX.evOp, SX.opd, SX.opds, SX.look, SX.putS, SX.gobs, SX.AllP, SX.leave, SX.lookT, SX.evBuiltin, SX.evBin, SX.evInt, SX.arith, SX.evLoad, SX.shapeUp, SX.evFieldAddr, SX.evNew, SX.evStore, SX.spliceL, SX.SV.cells, SX.popTo, SX.TD.isAgg, SX.NotAgg, cfg3, coC]
  refine ⟨by (unfold SX.Ob; first | trivial | omega | ((try simp only [SX.inK]); (try simp [SX.den, SX.IsU8, SX.AllP, *]); (try omega))), ?_⟩
  intro a9 w9 hr9' _
  have hr9 := hr8.unbase hr9'
  have z9 : w8.heap.size ≤ w9.heap.size := hr9'.keeps.size
  have kc : ∀ {w1 w2 : World} {M : List Nat}, KeepsTo w1 M w2 → (∀ x ∈ M, ¬ (w7.heap.size ≤ x ∧ x < w8.heap.size)) → RdCo (fun x => w7.heap.size ≤ x ∧ x < w8.heap.size) w1 (.slice aL c.T.L.length cL) (.slice aS c.S.length cS) (.slice aW c.W.length cW) c → RdCo (fun x => w7.heap.size ≤ x ∧ x < w8.heap.size) w2 (.slice aL c.T.L.length cL) (.slice aS c.S.length cS) (.slice aW c.W.length cW) c := fun hk hM h => ⟨h.1.keep hk hM, h.2.1.keep hk hM, h.2.2.keep hk hM⟩
  have hC9 := kc hr9'.keeps (by simp [mutB]; omega) (hC8.mono fun x h0 h => ⟨h, h0⟩)
  refine post_call 11 [.ag (tabC c.T (.slice aL c.T.L.length cL)), .v (.int .i64 (2000 + g))] hr9 (by first | exact wanted_none rfl | exact wanted_zero (hr9.env.same rfl rfl rfl rfl) rfl (by simp) | exact wanted_zero (hr9.env.same rfl rfl rfl rfl) rfl (by simp [*])) rfl (callable 11 Try.func11) (rHolder_ok w9 _ c.T (2000 + g) hC9.1 (by omega)) ?_
  rintro e10 w10 ⟨rfl, hb10⟩
  refine ⟨_, rfl, ?_⟩
  have h10 := hr9.ret hb10 55 (.tu [.ag (lseC (holdX c.T (2000 + g))), .v (.bool (decide (HasT c.T (2000 + g))))]) rfl _ (hr9.all.below hb10) (by simp) rfl
  have z10 : w9.heap.size ≤ w10.heap.size := hb10.size
  have hC10 : RdCo (fun x => w7.heap.size ≤ x ∧ x < w8.heap.size) w10 (.slice aL c.T.L.length cL) (.slice aS c.S.length cS) (.slice aW c.W.length cW) c := ⟨hC9.1.below hb10, hC9.2.1.below hb10, hC9.2.2.below hb10⟩
  by_cases hH : HasT c.T (2000 + g)
  rotate_left
  · have hd : decide (HasT c.T (2000 + g)) = false := decide_eq_false hH
    refine seg cfg3_ok mixed PanicFree.body 1000 [true] [] h10 (by first | trivial | exact HpRep.nil | assumption) (by kernel_rfl) fun s_ hs_ => ?_
    simp (maxSteps := 10000000) [SX.vc, SX.stop, SX.contS, SX.contB, SX.sxStep, SX.stepPure, SX.stepNew, SX.stepStore, SX.guardIx, SX.evOp, SX.opd, SX.look, SX.putS, SX.gobs, SX.AllP, SX.leave, SX.lookT, SX.cellsV, SX.evNew, SX.evStore, SX.spliceL, SX.SV.cells, SX.evUn, SX.NotAgg, Go.Value.cells, cfg3, hd, lseC]
    refine ⟨by (unfold SX.Ob; first | trivial | omega | ((try simp only [SX.inK]); (try simp [SX.den, SX.IsU8, SX.AllP, *]); (try omega))), ?_⟩
    intro a11 w11 hr11 _
    exact post_retn (end1 hr11 rfl rfl ⟨rfl, hr11.keeps.toBelow⟩).1
  have hd : decide (HasT c.T (2000 + g)) = true := decide_eq_true hH
  obtain ⟨hA0, hfacts⟩ := leave_facts I q8.1 q8.2 hH
  refine seg cfg3_ok mixed PanicFree.body 1000 [false] [] h10.rebase (by first | trivial | exact HpRep.nil | assumption) (by kernel_rfl) fun sC hsC => ?_
  simp (maxSteps := 10000000) [SX.vc, SX.stop, SX.contS, SX.contB, SX.sxStep, SX.stepPure, SX.stepNew, SX.stepStore, SX.guardIx, SX.evOp, SX.opd, SX.opds, SX.look, SX.putS, SX.gobs, SX.AllP, SX.leave, SX.lookT, SX.evBin, SX.evInt, SX.arith, SX.evLoad, SX.shapeUp, SX.evFieldAddr, SX.evFill, SX.evBuild, SX.szs, SX.cellsV, SX.evNew, SX.evStore, SX.spliceL, SX.SV.cells, SX.evUn, SX.TD.isAgg, SX.NotAgg, Go.Value.cells, cfg3, hd, lseC]
  refine ⟨by (unfold SX.Ob; first | trivial | omega | ((try simp only [SX.inK]); (try simp [SX.den, SX.IsU8, SX.AllP, *]); (try omega))), ?_⟩
  intro a11 w11 hr11' _
  have hr11 := h10.unbase hr11'
  have z11 : w10.heap.size ≤ w11.heap.size := hr11'.keeps.size
  have q11 := hpLt hr11.all
  simp at q11
  have hC11 := kc hr11'.keeps (by simp [mutB]; omega) hC10
  obtain ⟨d, hdd⟩ : ∃ d, doC c (lvEv g (holdX c.T (2000 + g)).e) = d := ⟨_, rfl⟩
  obtain ⟨f1, f2, f3, f4, f5, f6⟩ := hfacts d hdd
  have Id : Inv (0 + L.length + 1) d := hdd ▸ inv_do I (show (0 : Int) ≤ 1152921504606846976 by decide)
  have hdo := do_ok w11 c (lvEv g (holdX c.T (2000 + g)).e) _ _ _ hC11 (I.pre (by omega) _)
  unfold DoR at hdo
  rw [hdd, hA0] at hdo
  refine post_call 12 [.ag (coC c (.slice aL c.T.L.length cL) (.slice aS c.S.length cS) (.slice aW c.W.length cW)), .ag (evC (lvEv g (holdX c.T (2000 + g)).e))] hr11 (wanted_none rfl) rfl (callable 12 Try.func12) hdo ?_
  rintro e12 w12 ⟨vL, vS, vW, va, rfl, hD12, hv12, hb12⟩
  refine ⟨_, rfl, ?_⟩
  obtain ⟨dL, kL, rfl⟩ := hD12.1.slice
  obtain ⟨dS, kS, rfl⟩ := hD12.2.1.slice
  obtain ⟨dW, kW, rfl⟩ := hD12.2.2.slice
  obtain ⟨av, cv, rfl⟩ := hv12.slice
  have z12 : w11.heap.size ≤ w12.heap.size := hb12.size
  have m1 := Id.nL
  have m2 := Id.nS
  have m3 := Id.nW
  have hr12 := hr11.ret hb12 69 (.tu [.ag (coC d (.slice dL d.T.L.length kL) (.slice dS d.S.length kS) (.slice dW d.W.length kW)), .ag (ansC (noA 0) (.slice av (noA 0).L.length cv))]) rfl _ (hr11.all.below hb12) (by simp) rfl
  refine seg cfg3_ok mixed PanicFree.body 1000 [] [(75, false)] hr12.rebase (by first | trivial | exact HpRep.nil | assumption) (by kernel_rfl) fun sD hsD => ?_
  simp (maxSteps := 10000000) [SX.vc, SX.stop, SX.contS, SX.sxStep, SX.stepPure, SX.stepNew, SX.stepStore, SX.guardIx, SX.evOp, SX.opd, SX.look, SX.putS, SX.gobs, SX.AllP, SX.leave, SX.lookB, SX.lookT, SX.evBin, SX.evInt, SX.evLoad, SX.shapeUp, SX.evFieldAddr, SX.cellsV, SX.evNew, SX.evStore, SX.spliceL, SX.SV.cells, SX.evPick, SX.cnd, SX.TD.isAgg, SX.NotAgg, Go.Value.cells, cfg3, coC, ansC, noA]
  refine ⟨by (unfold SX.Ob; first | trivial | omega | ((try simp only [SX.inK]); (try simp [SX.den, SX.IsU8, SX.AllP, *]); (try omega))), ?_⟩
  intro a13 w13 hr13' _
  have hr13 := hr12.unbase hr13'
  have hsA : sA < w7.heap.size := q7
  have hsC : w8.heap.size ≤ sC ∧ sC < w11.heap.size := by omega
  have hsD : w12.heap.size ≤ sD := by omega
  have kC : ∀ {w1 w2 : World} {M : List Nat}, KeepsTo w1 M w2 → (∀ x ∈ M, x = sA ∨ x = sC ∨ x = sD ∨ x = sD + 1) → RdCo (fun x => w7.heap.size ≤ x ∧ x < w8.heap.size) w1 (.slice aL c.T.L.length cL) (.slice aS c.S.length cS) (.slice aW c.W.length cW) c → RdCo (fun x => w7.heap.size ≤ x ∧ x < w8.heap.size) w2 (.slice aL c.T.L.length cL) (.slice aS c.S.length cS) (.slice aW c.W.length cW) c := fun hk hM h => kc hk (fun x hx hq => by have := hM x hx; omega) h
  have kD : ∀ {w1 w2 : World} {M : List Nat}, KeepsTo w1 M w2 → (∀ x ∈ M, x = sA ∨ x = sC ∨ x = sD ∨ x = sD + 1) → RdCo (fun x => w11.heap.size ≤ x ∧ x < w12.heap.size) w1 (.slice dL d.T.L.length kL) (.slice dS d.S.length kS) (.slice dW d.W.length kW) d → RdCo (fun x => w11.heap.size ≤ x ∧ x < w12.heap.size) w2 (.slice dL d.T.L.length kL) (.slice dS d.S.length kS) (.slice dW d.W.length kW) d := fun hk hM h => by
    have hM' : ∀ x ∈ _, ¬ (fun x => w11.heap.size ≤ x ∧ x < w12.heap.size) x := fun x hx hq => by
      have := hM x hx
      have : w11.heap.size ≤ x ∧ x < w12.heap.size := hq
      omega
    exact ⟨h.1.keep hk hM', h.2.1.keep hk hM', h.2.2.keep hk hM'⟩
  have hC12 : RdCo (fun x => w7.heap.size ≤ x ∧ x < w8.heap.size) w12 (.slice aL c.T.L.length cL) (.slice aS c.S.length cS) (.slice aW c.W.length cW) c := ⟨hC11.1.below hb12, hC11.2.1.below hb12, hC11.2.2.below hb12⟩
  have hC13 := kC hr13'.keeps (by simp [mutB]) hC12
  have hD13 := kD hr13'.keeps (by simp [mutB]) (hD12.mono fun x h0 h => ⟨h, h0⟩)
  refine post_call 13 [.ag (coC d (.slice dL d.T.L.length kL) (.slice dS d.S.length kS) (.slice dW d.W.length kW)), .v (.int .i64 g)] hr13 (by first | exact wanted_none rfl | exact wanted_zero (hr13.env.same rfl rfl rfl rfl) rfl (by simp) | exact wanted_zero (hr13.env.same rfl rfl rfl rfl) rfl (by simp [*])) rfl (callable 13 Try.func13) (member_ok w13 d _ _ _ g hD13.1 (by omega)) ?_
  rintro e14 w14 ⟨rfl, hb14⟩
  refine ⟨_, rfl, ?_⟩
  have h14 := hr13.ret hb14 78 (.v (.bool (decide (memP d g)))) rfl _ (hr13.all.below hb14) (by simp) rfl
  have hmf : decide (memP d g) = false := decide_eq_false f1
  refine seg cfg3_ok mixed PanicFree.body 1000 [false] [(75, false)] h14.rebase (by first | trivial | exact HpRep.nil | assumption) (by kernel_rfl) fun s_ hs_ => ?_
  simp (maxSteps := 10000000) [SX.vc, SX.stop, SX.contS, SX.contB, SX.sxStep, SX.stepPure, SX.guardIx, SX.evOp, SX.opd, SX.opds, SX.look, SX.putS, SX.gobs, SX.AllP, SX.leave, SX.lookB, SX.lookT, SX.evBuiltin, SX.evLoad, SX.shapeUp, SX.evFieldAddr, SX.evPick, SX.TD.isAgg, cfg3, hmf]
  refine ⟨by (unfold SX.Ob; first | trivial | omega | ((try simp only [SX.inK]); (try simp [SX.den, SX.IsU8, SX.AllP, *]); (try omega))), ?_⟩
  intro a15 w15 hr15' _
  have hr15 := h14.unbase hr15'
  have hC15 := kC hr15'.keeps (by simp [mutB]) ⟨hC13.1.below hb14, hC13.2.1.below hb14, hC13.2.2.below hb14⟩
  have hD15 := kD hr15'.keeps (by simp [mutB]) ⟨hD13.1.below hb14, hD13.2.1.below hb14, hD13.2.2.below hb14⟩
  have hr16 := hr15.see [(sA, true, .cells (coC c (.slice aL c.T.L.length cL) (.slice aS c.S.length cS) (.slice aW c.W.length cW)) 31), (sC, true, .any), (sD, true, .cells (coC d (.slice dL d.T.L.length kL) (.slice dS d.S.length kS) (.slice dW d.W.length kW)) 31), (sD + 1, true, .any)] ⟨⟨hr15.all.1.1, hr15.all.1.2.1, by simp; omega⟩, ⟨SO.rep_lt hr15.all.2.1.1, hr15.all.2.1.2.1, by simp; omega⟩, ⟨hr15.all.2.2.1.1, hr15.all.2.2.1.2.1, by simp⟩, ⟨SO.rep_lt hr15.all.2.2.2.1.1, hr15.all.2.2.2.1.2.1, by simp⟩, trivial⟩
  refine post_loop (fun m a w' => ∃ k : Nat, m = d.S.length - k ∧ k ≤ d.S.length ∧ RdCo (fun x => w7.heap.size ≤ x ∧ x < w8.heap.size) w' (.slice aL c.T.L.length cL) (.slice aS c.S.length cS) (.slice aW c.W.length cW) c ∧ RdCo (fun x => w11.heap.size ≤ x ∧ x < w12.heap.size) w' (.slice dL d.T.L.length kL) (.slice dS d.S.length kS) (.slice dW d.W.length kW) d ∧ RepX (frame0 w) ⟨[(83, 0, .v (.int .i64 k)), (82, 0, .v (.int .i64 d.S.length)), (81, 0, .v (.slice dS d.S.length kS)), (14, 0, .ptr 2 sD 0), (10, 0, .ptr 0 sA 0), (3, 0, .v (.int .i64 g)), (9, 0, .v (.bool true)), (8, 0, .v (.bool false))], [(sA, true, .cells (coC c (.slice aL c.T.L.length cL) (.slice aS c.S.length cS) (.slice aW c.W.length cW)) 31), (sC, true, .any), (sD, true, .cells (coC d (.slice dL d.T.L.length kL) (.slice dS d.S.length kS) (.slice dW d.W.length kW)) 31), (sD + 1, true, .any)], 0, 0, 143, [], [], []⟩ a w') d.S.length ⟨0, rfl, by omega, hC15, hD15, hr16.re (by simp [envTo, SX.look]) hr16.all rfl rfl⟩ ?_
  rintro m a17 w17 ⟨k, rfl, hk, hC17, hD17, hr17⟩
  by_cases hlt : k < d.S.length
  · obtain ⟨b, o0, cap, u, fz, hP', hv, hrep⟩ := hD17.2.1.opn hlt
    simp only [Value.slice.injEq] at hv
    obtain ⟨hv1, _, hv2⟩ := hv
    obtain ⟨x, hx⟩ : ∃ x, nth S7.spn0 d.S k = x := ⟨_, rfl⟩
    have hxg : ¬ x.ow = g := f2 x (hx ▸ nth_mem hlt)
    have h18 := (hr17.top 81 (.sl 4 b o0 0 d.S.length kS 4) rfl (by simp [den, hv1])).see [(sA, true, .cells (coC c (.slice aL c.T.L.length cL) (.slice aS c.S.length cS) (.slice aW c.W.length cW)) 31), (sC, true, .any), (sD, true, .cells (coC d (.slice dL d.T.L.length kL) (.slice dS d.S.length kS) (.slice dW d.W.length kW)) 31), (sD + 1, true, .any), (b, false, .arr o0 d.S.length (fun j => S7.spnC (nth S7.spn0 d.S j)) 4 u fz)] ⟨⟨hr17.all.1.1, hr17.all.1.2.1, by simp; omega⟩, ⟨hr17.all.2.1.1, hr17.all.2.1.2.1, by simp; omega⟩, ⟨hr17.all.2.2.1.1, hr17.all.2.2.1.2.1, by simp; omega⟩, ⟨hr17.all.2.2.2.1.1, hr17.all.2.2.2.1.2.1, by simp; omega⟩, ⟨hrep, by simp, by simp⟩, trivial⟩
    refine seg cfg3_ok mixed PanicFree.body 1000 [true, false] [] h18.rebase (by first | trivial | exact HpRep.nil | assumption) (by kernel_rfl) fun s_ hs_ => ?_
    simp (maxSteps := 10000000) [SX.vc, SX.stop, SX.contS, SX.contB, SX.sxStep, SX.stepPure, SX.stepNew, SX.stepStore, SX.guardIx, SX.evOp, SX.opd, SX.look, SX.putS, SX.gobs, SX.AllP, SX.leave, SX.lookT, SX.evBin, SX.evInt, SX.arith, SX.evLoad, SX.shapeUp, SX.evFieldAddr, SX.evIndexAddr, SX.cellsV, SX.evNew, SX.evStore, SX.spliceL, SX.SV.cells, SX.TD.isAgg, SX.NotAgg, Go.Value.cells, cfg3, S7.spnC, hx, hxg]
    refine ⟨by (unfold SX.Ob; first | trivial | omega | ((try simp only [SX.inK]); (try simp [SX.den, SX.IsU8, SX.AllP, *]); (try omega))), ?_⟩
    intro a19 w19 hr19' _
    have hr19 := h18.unbase hr19'
    exact post_rnd (d.S.length - (k + 1)) (by omega) ⟨k + 1, rfl, hlt, kC hr19'.keeps (by simp [mutB]) hC17, kD hr19'.keeps (by simp [mutB]) hD17, hr19.re (by simp [envTo, SX.look, den, hv1]) (hr19.all.take 4) rfl rfl⟩
  obtain rfl : k = d.S.length := by omega
  refine seg cfg3_ok mixed PanicFree.body 1000 [false] [] hr17.rebase (by first | trivial | exact HpRep.nil | assumption) (by kernel_rfl) fun s_ hs_ => ?_
  simp (maxSteps := 10000000) [SX.vc, SX.stop, SX.contS, SX.contB, SX.contW, SX.sxStep, SX.stepPure, SX.stepNew, SX.stepStore, SX.guardIx, SX.evOp, SX.opd, SX.opds, SX.look, SX.putS, SX.gobs, SX.AllP, SX.leave, SX.lookT, SX.evBuiltin, SX.evBin, SX.evInt, SX.arith, SX.evLoad, SX.shapeUp, SX.evFieldAddr, SX.evNew, SX.evStore, SX.spliceL, SX.SV.cells, SX.popTo, SX.TD.isAgg, SX.NotAgg, cfg3, coC]
  refine ⟨by (unfold SX.Ob; first | trivial | omega | ((try simp only [SX.inK]); (try simp [SX.den, SX.IsU8, SX.AllP, *]); (try omega))), ?_⟩
  intro a19 w19 hr19' _
  have hr19 := hr17.unbase hr19'
  have hC19 := kC hr19'.keeps (by simp [mutB]) hC17
  have hD19 := kD hr19'.keeps (by simp [mutB]) hD17
  refine post_loop (fun m a w' => ∃ k : Nat, m = d.W.length - k ∧ k ≤ d.W.length ∧ RdCo (fun x => w7.heap.size ≤ x ∧ x < w8.heap.size) w' (.slice aL c.T.L.length cL) (.slice aS c.S.length cS) (.slice aW c.W.length cW) c ∧ RdCo (fun x => w11.heap.size ≤ x ∧ x < w12.heap.size) w' (.slice dL d.T.L.length kL) (.slice dS d.S.length kS) (.slice dW d.W.length kW) d ∧ RepX (frame0 w) ⟨[(95, 0, .v (.int .i64 k)), (94, 0, .v (.int .i64 d.W.length)), (93, 0, .v (.slice dW d.W.length kW)), (14, 0, .ptr 2 sD 0), (10, 0, .ptr 0 sA 0), (3, 0, .v (.int .i64 g)), (9, 0, .v (.bool true)), (8, 0, .v (.bool false))], [(sA, true, .cells (coC c (.slice aL c.T.L.length cL) (.slice aS c.S.length cS) (.slice aW c.W.length cW)) 31), (sC, true, .any), (sD, true, .cells (coC d (.slice dL d.T.L.length kL) (.slice dS d.S.length kS) (.slice dW d.W.length kW)) 31), (sD + 1, true, .any)], 0, 0, 143, [], [], []⟩ a w') d.W.length ⟨0, rfl, by omega, hC19, hD19, hr19.re (by simp [envTo, SX.look]) hr19.all rfl rfl⟩ ?_
  rintro m a20 w20 ⟨k, rfl, hk, hC20, hD20, hr20⟩
  by_cases hlt : k < d.W.length
  · obtain ⟨b, o0, cap, u, fz, hP', hv, hrep⟩ := hD20.2.2.opn hlt
    simp only [Value.slice.injEq] at hv
    obtain ⟨hv1, _, hv2⟩ := hv
    obtain ⟨x, hx⟩ : ∃ x, nth fen0 d.W k = x := ⟨_, rfl⟩
    have hxg : ¬ x.h = g := f3 x (hx ▸ nth_mem hlt)
    have h21 := (hr20.top 93 (.sl 4 b o0 0 d.W.length kW 3) rfl (by simp [den, hv1])).see [(sA, true, .cells (coC c (.slice aL c.T.L.length cL) (.slice aS c.S.length cS) (.slice aW c.W.length cW)) 31), (sC, true, .any), (sD, true, .cells (coC d (.slice dL d.T.L.length kL) (.slice dS d.S.length kS) (.slice dW d.W.length kW)) 31), (sD + 1, true, .any), (b, false, .arr o0 d.W.length (fun j => fenC (nth fen0 d.W j)) 3 u fz)] ⟨⟨hr20.all.1.1, hr20.all.1.2.1, by simp; omega⟩, ⟨hr20.all.2.1.1, hr20.all.2.1.2.1, by simp; omega⟩, ⟨hr20.all.2.2.1.1, hr20.all.2.2.1.2.1, by simp; omega⟩, ⟨hr20.all.2.2.2.1.1, hr20.all.2.2.2.1.2.1, by simp; omega⟩, ⟨hrep, by simp, by simp⟩, trivial⟩
    refine seg cfg3_ok mixed PanicFree.body 1000 [true, false] [] h21.rebase (by first | trivial | exact HpRep.nil | assumption) (by kernel_rfl) fun s_ hs_ => ?_
    simp (maxSteps := 10000000) [SX.vc, SX.stop, SX.contS, SX.contB, SX.sxStep, SX.stepPure, SX.stepNew, SX.stepStore, SX.guardIx, SX.evOp, SX.opd, SX.look, SX.putS, SX.gobs, SX.AllP, SX.leave, SX.lookT, SX.evBin, SX.evInt, SX.arith, SX.evLoad, SX.shapeUp, SX.evFieldAddr, SX.evIndexAddr, SX.cellsV, SX.evNew, SX.evStore, SX.spliceL, SX.SV.cells, SX.TD.isAgg, SX.NotAgg, Go.Value.cells, cfg3, fenC, hx, hxg]
    refine ⟨by (unfold SX.Ob; first | trivial | omega | ((try simp only [SX.inK]); (try simp [SX.den, SX.IsU8, SX.AllP, *]); (try omega))), ?_⟩
    intro a22 w22 hr22' _
    have hr22 := h21.unbase hr22'
    exact post_rnd (d.W.length - (k + 1)) (by omega) ⟨k + 1, rfl, hlt, kC hr22'.keeps (by simp [mutB]) hC20, kD hr22'.keeps (by simp [mutB]) hD20, hr22.re (by simp [envTo, SX.look, den, hv1]) (hr22.all.take 4) rfl rfl⟩
  obtain rfl : k = d.W.length := by omega
  refine seg cfg3_ok mixed PanicFree.body 1000 [false] [] hr20.rebase (by first | trivial | exact HpRep.nil | assumption) (by kernel_rfl) fun s_ hs_ => ?_
  simp (maxSteps := 10000000) [SX.vc, SX.stop, SX.contS, SX.contB, SX.contW, SX.sxStep, SX.stepPure, SX.stepNew, SX.stepStore, SX.guardIx, SX.evOp, SX.opd, SX.opds, SX.look, SX.putS, SX.gobs, SX.AllP, SX.leave, SX.lookT, SX.evBuiltin, SX.evBin, SX.evInt, SX.arith, SX.evLoad, SX.shapeUp, SX.evFieldAddr, SX.evNew, SX.evStore, SX.spliceL, SX.SV.cells, SX.popTo, SX.TD.isAgg, SX.NotAgg, cfg3, coC]
  refine ⟨by (unfold SX.Ob; first | trivial | omega | ((try simp only [SX.inK]); (try simp [SX.den, SX.IsU8, SX.AllP, *]); (try omega))), ?_⟩
  intro a22 w22 hr22' _
  have hr22 := hr20.unbase hr22'
  have hC22 := kC hr22'.keeps (by simp [mutB]) hC20
  have hD22 := kD hr22'.keeps (by simp [mutB]) hD20
  have y1 := Id.z1
  have y8 := Id.z8
  obtain ⟨N, hN⟩ : ∃ N : Nat, d.zn = N := ⟨d.zn.toNat, by omega⟩
  refine post_loop (fun m a w' => ∃ k : Nat, m = N - k ∧ k ≤ N ∧ RdCo (fun x => w7.heap.size ≤ x ∧ x < w8.heap.size) w' (.slice aL c.T.L.length cL) (.slice aS c.S.length cS) (.slice aW c.W.length cW) c ∧ RdCo (fun x => w11.heap.size ≤ x ∧ x < w12.heap.size) w' (.slice dL d.T.L.length kL) (.slice dS d.S.length kS) (.slice dW d.W.length kW) d ∧ RepX (frame0 w) ⟨[(106, 0, .v (.int .i64 k)), (105, 0, .v (.int .i64 d.zn)), (14, 0, .ptr 2 sD 0), (10, 0, .ptr 0 sA 0), (3, 0, .v (.int .i64 g)), (9, 0, .v (.bool true)), (8, 0, .v (.bool false))], [(sA, true, .cells (coC c (.slice aL c.T.L.length cL) (.slice aS c.S.length cS) (.slice aW c.W.length cW)) 31), (sC, true, .any), (sD, true, .cells (coC d (.slice dL d.T.L.length kL) (.slice dS d.S.length kS) (.slice dW d.W.length kW)) 31), (sD + 1, true, .any)], 0, 0, 143, [], [], []⟩ a w') N ⟨0, rfl, by omega, hC22, hD22, hr22.re (by simp [envTo, SX.look]) hr22.all rfl rfl⟩ ?_
  rintro m a23 w23 ⟨k, rfl, hk, hC23, hD23, hr23⟩
  by_cases hlt : k < N
  · have hkz : (k : Int) < d.zn := by omega
    refine seg cfg3_ok mixed PanicFree.body 1000 [true] [] hr23.rebase (by first | trivial | exact HpRep.nil | assumption) (by kernel_rfl) fun s_ hs_ => ?_
    simp (maxSteps := 10000000) [SX.vc, SX.stop, SX.contS, SX.contB, SX.sxStep, SX.stepPure, SX.stepNew, SX.stepStore, SX.guardIx, SX.evOp, SX.opd, SX.look, SX.putS, SX.gobs, SX.AllP, SX.leave, SX.lookT, SX.evBin, SX.evInt, SX.evLoad, SX.shapeUp, SX.evNew, SX.evStore, SX.TD.isAgg, cfg3, coC, hkz]
    refine ⟨by (unfold SX.Ob; first | trivial | omega | ((try simp only [SX.inK]); (try simp [SX.den, SX.IsU8, SX.AllP, *]); (try omega))), ?_⟩
    intro a24 w24 hr24' _
    have hr24 := hr23.unbase hr24'
    have hC24 := kC hr24'.keeps (by simp [mutB]) hC23
    have hD24 := kD hr24'.keeps (by simp [mutB]) hD23
    refine post_call 14 [.ag (coC c (.slice aL c.T.L.length cL) (.slice aS c.S.length cS) (.slice aW c.W.length cW)), .v (.int .i64 k)] hr24 (by first | exact wanted_none rfl | exact wanted_zero (hr24.env.same rfl rfl rfl rfl) rfl (by simp) | exact wanted_zero (hr24.env.same rfl rfl rfl rfl) rfl (by simp [*])) rfl (callable 14 Try.func14) (owner_ok w24 c _ _ _ k hC24.1 (by omega)) ?_
    rintro e25 w25 ⟨rfl, hb25⟩
    refine ⟨_, rfl, ?_⟩
    have h25 := hr24.ret hb25 112 (.tu [.v (.int .i64 (ownH c k)), .v (.int .i64 (ownE c k))]) rfl _ (hr24.all.below hb25) (by simp) rfl
    refine seg cfg3_ok mixed PanicFree.body 1000 [] [] h25.rebase (by first | trivial | exact HpRep.nil | assumption) (by kernel_rfl) fun s_ hs_ => ?_
    simp (maxSteps := 10000000) [SX.vc, SX.stop, SX.contS, SX.sxStep, SX.stepPure, SX.stepNew, SX.stepStore, SX.guardIx, SX.evOp, SX.opd, SX.look, SX.putS, SX.gobs, SX.AllP, SX.leave, SX.lookT, SX.evLoad, SX.shapeUp, SX.evNew, SX.evStore, SX.TD.isAgg, cfg3]
    refine ⟨by (unfold SX.Ob; first | trivial | omega | ((try simp only [SX.inK]); (try simp [SX.den, SX.IsU8, SX.AllP, *]); (try omega))), ?_⟩
    intro a26 w26 hr26' _
    have hr26 := h25.unbase hr26'
    have hC26 := kC hr26'.keeps (by simp [mutB]) ⟨hC24.1.below hb25, hC24.2.1.below hb25, hC24.2.2.below hb25⟩
    have hD26 := kD hr26'.keeps (by simp [mutB]) ⟨hD24.1.below hb25, hD24.2.1.below hb25, hD24.2.2.below hb25⟩
    have how := owner_ok w26 d _ (.slice dS d.S.length kS) (.slice dW d.W.length kW) k hD26.1 (by omega)
    rw [(f5 k (by omega)).1, (f5 k (by omega)).2] at how
    refine post_call 14 [.ag (coC d (.slice dL d.T.L.length kL) (.slice dS d.S.length kS) (.slice dW d.W.length kW)), .v (.int .i64 k)] hr26 (by first | exact wanted_none rfl | exact wanted_zero (hr26.env.same rfl rfl rfl rfl) rfl (by simp) | exact wanted_zero (hr26.env.same rfl rfl rfl rfl) rfl (by simp [*])) rfl (callable 14 Try.func14) (how) ?_
    rintro e27 w27 ⟨rfl, hb27⟩
    refine ⟨_, rfl, ?_⟩
    have h27 := hr26.ret hb27 118 (.tu [.v (.int .i64 (ownH c k)), .v (.int .i64 (ownE c k))]) rfl _ (hr26.all.below hb27) (by simp) rfl
    refine seg cfg3_ok mixed PanicFree.body 1000 [false] [(124, false)] h27.rebase (by first | trivial | exact HpRep.nil | assumption) (by kernel_rfl) fun s_ hs_ => ?_
    simp (maxSteps := 10000000) [SX.vc, SX.stop, SX.contS, SX.contB, SX.sxStep, SX.stepPure, SX.guardIx, SX.evOp, SX.opd, SX.look, SX.putS, SX.gobs, SX.AllP, SX.leave, SX.lookB, SX.evBin, SX.evInt, SX.arith, SX.evPick, SX.cnd, cfg3]
    refine ⟨by (unfold SX.Ob; first | trivial | omega | ((try simp only [SX.inK]); (try simp [SX.den, SX.IsU8, SX.AllP, *]); (try omega))), ?_⟩
    intro a28 w28 hr28' _
    have hr28 := h27.unbase hr28'
    have hC28 := kC hr28'.keeps (by simp [mutB]) ⟨hC26.1.below hb27, hC26.2.1.below hb27, hC26.2.2.below hb27⟩
    have hD28 := kD hr28'.keeps (by simp [mutB]) ⟨hD26.1.below hb27, hD26.2.1.below hb27, hD26.2.2.below hb27⟩
    exact post_rnd (N - (k + 1)) (by omega) ⟨k + 1, rfl, hlt, hC28, hD28, hr28.re (by simp [envTo, SX.look, den]) hr28.all rfl rfl⟩
  have hkz : ¬ (k : Int) < d.zn := by omega
  refine seg cfg3_ok mixed PanicFree.body 1000 [false] [] hr23.rebase (by first | trivial | exact HpRep.nil | assumption) (by kernel_rfl) fun s_ hs_ => ?_
  simp (maxSteps := 10000000) [SX.vc, SX.stop, SX.contS, SX.contB, SX.contW, SX.sxStep, SX.stepPure, SX.stepNew, SX.stepStore, SX.guardIx, SX.evOp, SX.opd, SX.opds, SX.look, SX.putS, SX.gobs, SX.AllP, SX.leave, SX.lookT, SX.evBin, SX.evInt, SX.evLoad, SX.shapeUp, SX.evFill, SX.evBuild, SX.szs, SX.cellsV, SX.evNew, SX.evStore, SX.spliceL, SX.SV.cells, SX.popTo, SX.TD.isAgg, Go.Value.cells, cfg3, coC, hkz]
  refine ⟨by (unfold SX.Ob; first | trivial | omega | ((try simp only [SX.inK]); (try simp [SX.den, SX.IsU8, SX.AllP, *]); (try omega))), ?_⟩
  intro a24 w24 hr24' _
  have hr24 := hr23.unbase hr24'
  have hD24 := kD hr24'.keeps (by simp [mutB]) hD23
  have hdo2 := do_ok w24 d (znEv g) _ _ _ hD24 (Id.pre (by omega) _)
  unfold DoR at hdo2
  rw [f6] at hdo2
  refine post_call 12 [.ag (coC d (.slice dL d.T.L.length kL) (.slice dS d.S.length kS) (.slice dW d.W.length kW)), .ag (evC (znEv g))] hr24 (wanted_none rfl) rfl (callable 12 Try.func12) hdo2 ?_
  rintro e25 w25 ⟨vL, vS, vW, va, rfl, hD25, hv25, hb25⟩
  refine ⟨_, rfl, ?_⟩
  obtain ⟨xL, yL, rfl⟩ := hD25.1.slice
  obtain ⟨xS, yS, rfl⟩ := hD25.2.1.slice
  obtain ⟨xW, yW, rfl⟩ := hD25.2.2.slice
  obtain ⟨xv, yv, rfl⟩ := hv25.slice
  have hr25 := hr24.ret hb25 134 (.tu [.ag (coC (doC d (znEv g)) (.slice xL (doC d (znEv g)).T.L.length yL) (.slice xS (doC d (znEv g)).S.length yS) (.slice xW (doC d (znEv g)).W.length yW)), .ag (ansC (noA 4) (.slice xv (noA 4).L.length yv))]) rfl _ (hr24.all.below hb25) (by simp) rfl
  refine seg cfg3_ok mixed PanicFree.body 1000 [] [(138, true)] hr25 (by first | trivial | exact HpRep.nil | assumption) (by kernel_rfl) fun s_ hs_ => ?_
  simp (maxSteps := 10000000) [SX.vc, SX.stop, SX.contS, SX.sxStep, SX.stepPure, SX.stepNew, SX.stepStore, SX.guardIx, SX.evOp, SX.opd, SX.look, SX.putS, SX.gobs, SX.AllP, SX.leave, SX.lookB, SX.lookT, SX.evBin, SX.evInt, SX.evLoad, SX.shapeUp, SX.evFieldAddr, SX.cellsV, SX.evNew, SX.evStore, SX.spliceL, SX.SV.cells, SX.evPick, SX.cnd, SX.TD.isAgg, SX.NotAgg, Go.Value.cells, cfg3, coC, ansC, noA]
  refine ⟨by (unfold SX.Ob; first | trivial | omega | ((try simp only [SX.inK]); (try simp [SX.den, SX.IsU8, SX.AllP, *]); (try omega))), ?_⟩
  intro a26 w26 hr26 _
  exact post_retn (end1 hr26 rfl rfl ⟨rfl, hr26.keeps.toBelow⟩).1
end Go.Proofs.C8
