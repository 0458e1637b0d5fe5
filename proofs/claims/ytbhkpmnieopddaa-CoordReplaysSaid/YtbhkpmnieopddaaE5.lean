/- E5: texts of this proof, joined. -/
import Derived.Test.YtbhkpmnieopddaaE4
set_option linter.unusedVariables false
set_option linter.unusedSimpArgs false
set_option linter.unusedSectionVars false
namespace Go.Proofs.C8
open Go Go.Proofs Go.SX Go.RowKit Go.Proofs.L6
theorem holdX_mem {t : Tab} {key : Int} (h : HasT t key) : holdX t key ∈ t.L := by
  rw [holdX, if_pos h]
  unfold getK
  rcases hf : t.L.find? (fun x => decide (x.k = key)) with _ | y
  · obtain ⟨x, hx, hk⟩ := h.2
    exact absurd hk (by simpa using List.find?_eq_none.1 hf x hx)
  · rw [hf]
    exact List.mem_of_find?_eq_some hf
set_option maxRecDepth 100000 in
set_option maxHeartbeats 128000000 in
theorem leave_ok {QL QS QW : Nat → Prop} (w : World) (D : Nat) (c : Co) (e : Evt) (vL vS vW : Value) (h : Dsk QL QS QW D w c e vL vS vW) (hs : Small c) (hkey : ∀ x ∈ c.T.L, 0 ≤ x.k ∧ x.k ≤ 1000000) :
    Calls Try.prog 29 (denL [.ptr 0 D 0]).toArray w (OpR QL QS QW D w e (leaveA c e) (leaveC c e)) := by
  have n1 := hs.n1
  have n3 := hs.n3
  have n4 := hs.n4
  obtain ⟨Bw, hBw, hW⟩ := OwS.only h.W
  have hDw : D < w.heap.size := SO.rep_lt h.rep
  have hDB : ¬ D ∈ Bw := fun hm => h.nW (hBw D hm).1
  have sB : ∀ (P : Nat → Prop), ¬ P D → (∀ x, P x → ¬ QW x) → ∀ x ∈ D :: Bw, ¬ P x := fun P h1 h2 x hx hp => by
    rcases List.mem_cons.1 hx with rfl | hx
    · exact h1 hp
    · exact h2 x hp (hBw x hx).1
  have hnb : ∀ x, w.heap.size ≤ x → ¬ x ∈ Bw := fun x hx hm => by
    have := (hBw x hm).2
    omega
  have hE : HpAll ⟨w, w.heap.size, D :: Bw⟩ w [(D, true, .cells (deskC c e vL vS vW) 74)] := ⟨⟨h.rep, fun _ => .inr (by simp), by simp⟩, trivial⟩
  have hS0 := h.S.mono (P' := fun x => QS x ∧ x < w.heap.size) fun x h0 h => ⟨h, h0⟩
  refine enter (F := ⟨w, w.heap.size, D :: Bw⟩) Try.func29 rfl [.ptr 0 D 0] _ (by simp [Try.f29]) hE (KeepsTo.refl w _) fun a hr => ?_
  refine seg cfg29_ok mixed PanicFree.body 1000 [] [] hr.rebase (by first | trivial | exact HpRep.nil | assumption) (by kernel_rfl) fun sA hsA => ?_
  simp (maxSteps := 10000000) [SX.vc, SX.stop, SX.contS, SX.contR, SX.contD, SX.sxStep, SX.stepPure, SX.stepNew, SX.guardIx, SX.evOp, SX.opd, SX.look, SX.putS, SX.gobs, SX.AllP, SX.leave, SX.lookT, SX.lookN, SX.evLoad, SX.shapeUp, SX.evFieldAddr, SX.cellsV, SX.evNew, SX.evNil, SX.env0, SX.TD.isAgg, SX.thaw, SX.fork, Go.Value.cells, cfg29, Try.f29, deskC, coC, evC]
  refine ⟨by (unfold SX.Ob; first | trivial | omega | ((try simp only [SX.inK]); (try simp [SX.den, SX.IsU8, SX.AllP, *]); (try omega))), ?_⟩
  intro a1 w1 hr1' ht1
  have hr1 := hr.unbase hr1'
  have q1 := hpLt hr1.all
  simp at q1
  have z1 : w.heap.size ≤ w1.heap.size := hr1.keeps.size
  have hW1 := hW.keep hr1'.keeps (by simpa [frameAt, mutB] using hDB)
  refine post_both ?_ ?_
  · refine post_callD 62 [.ag [.v (.int .i64 c.T.last), .v (.int .i64 c.T.now), .v vL], .v (.int .i64 e.key)] hr1 rfl (by first | exact wanted_none rfl | exact wanted_zero (hr1.env.same rfl rfl rfl rfl) rfl (by simp) | exact wanted_zero (hr1.env.same rfl rfl rfl rfl) rfl (by simp [*])) rfl (callable 62 Try.func62) (Holder_ok w1 vL c.T e.key (h.L.rd.keep hr1.keeps (sB _ h.nL h.LW)) (by omega)) ?_
    rintro e2 w2 ⟨rfl, hb2⟩
    have ht2 := HpRep_below ht1 hb2
    refine ⟨_, rfl, ht2, ?_⟩
    have hr2 := hr1.ret hb2 18 (.tu [.ag (lseC (holdX c.T e.key)), .v (.bool (decide (HasT c.T e.key)))]) rfl _ (hr1.all.below hb2) (by simp) rfl
    have q2 := hpLt hr2.all
    simp at q2
    have z2 : w1.heap.size ≤ w2.heap.size := hb2.size
    have hWm := hW1.below hb2
    by_cases hH : HasT c.T e.key
    rotate_left
    · have hd : decide (HasT c.T e.key) = false := decide_eq_false hH
      refine seg cfg29_ok mixed PanicFree.body 1000 [true] [] hr2.rebase (by first | trivial | exact HpRep.nil | assumption) (by kernel_rfl) fun sX hsX => ?_
      simp (maxSteps := 10000000) [SX.vc, SX.stop, SX.contS, SX.contB, SX.contD, SX.sxStep, SX.stepPure, SX.stepNew, SX.stepStore, SX.stepKeep, SX.guardIx, SX.evOp, SX.opd, SX.look, SX.putS, SX.gobs, SX.AllP, SX.leave, SX.lookT, SX.cellsV, SX.evNew, SX.evStore, SX.spliceL, SX.SV.cells, SX.evUn, SX.tails, SX.NotAgg, SX.frz, SX.Froz, SX.frzStep, Go.Value.cells, cfg29, lseC, hd]
      refine ⟨by (unfold SX.Ob; first | trivial | omega | ((try simp only [SX.inK]); (try simp [SX.den, SX.IsU8, SX.AllP, *]); (try omega))), ?_⟩
      intro a20 w20 hr20' _
      have hr20 := hr2.unbase hr20'
      refine post_call 30 [.v (.int .i64 4)] hr20 (by first | exact wanted_none rfl | exact wanted_zero (hr20.env.same rfl rfl rfl rfl) rfl (by simp) | exact wanted_zero (hr20.env.same rfl rfl rfl rfl) rfl (by simp [*])) rfl (callable 30 Try.func30) (fails_ok w20 _) ?_
      rintro e21 w21 ⟨rfl, hb21⟩
      refine ⟨_, rfl, ?_⟩
      have h21 := hr20.ret hb21 24 (.ag (ansC (noA 4) (.slice none 0 0))) rfl _ (hr20.all.below hb21) (by simp) rfl
      refine seg cfg29_ok mixed PanicFree.body 1000 [] [] h21 (by first | trivial | exact HpRep.nil | assumption) (by kernel_rfl) fun s_ hs_ => ?_
      simp (maxSteps := 10000000) [SX.vc, SX.stop, SX.contS, SX.sxStep, SX.stepPure, SX.stepNew, SX.stepStore, SX.guardIx, SX.evOp, SX.opd, SX.look, SX.putS, SX.AllP, SX.leave, SX.lookT, SX.evNew, SX.evStore, SX.spliceL, SX.SV.cells, SX.NotAgg, cfg29, ansC, noA]
      refine ⟨by (unfold SX.Ob; first | trivial | omega | ((try simp only [SX.inK]); (try simp [SX.den, SX.IsU8, SX.AllP, *]); (try omega))), ?_⟩
      intro a22 w22 hr22 _
      have hA : leaveA c e = noA 4 := by rw [leaveA, if_pos hH]
      exact post_retn (endC1 hr22 rfl rfl rfl tok43 rfl ⟨.slice none 0 0, D :: Bw, by rw [hA]; rfl, by rw [hA]; exact OwS.nil.rd, fun x hx => (by rcases List.mem_cons.1 hx with rfl | hx; exact .inl rfl; exact .inr (.inr (hBw x hx).1)), hr22.keeps, fun h' => absurd ((congrArg Ans.er hA).symm.trans h') (by decide)⟩).1
    have hd : decide (HasT c.T e.key) = true := decide_eq_true hH
    by_cases hh : (holdX c.T e.key).h = e.h
    rotate_left
    · refine seg cfg29_ok mixed PanicFree.body 1000 [false, true, true] [] hr2.rebase (by first | trivial | exact HpRep.nil | assumption) (by kernel_rfl) fun sX hsX => ?_
      simp (maxSteps := 10000000) [SX.vc, SX.stop, SX.contS, SX.contB, SX.contR, SX.contD, SX.sxStep, SX.stepPure, SX.stepNew, SX.stepStore, SX.stepKeep, SX.guardIx, SX.evOp, SX.opd, SX.look, SX.putS, SX.gobs, SX.AllP, SX.leave, SX.lookT, SX.lookN, SX.evBin, SX.evInt, SX.evLoad, SX.shapeUp, SX.evFieldAddr, SX.cellsV, SX.evNew, SX.evStore, SX.spliceL, SX.SV.cells, SX.evNil, SX.evUn, SX.TD.isAgg, SX.tails, SX.NotAgg, SX.thaw, SX.frz, SX.Froz, SX.frzStep, Go.Value.cells, cfg29, lseC, hd, hh]
      refine ⟨by (unfold SX.Ob; first | trivial | omega | ((try simp only [SX.inK]); (try simp [SX.den, SX.IsU8, SX.AllP, *]); (try omega))), ?_⟩
      intro a20 w20 hr20' _
      have hr20 := hr2.unbase hr20'
      refine post_call 30 [.v (.int .i64 61)] hr20 (by first | exact wanted_none rfl | exact wanted_zero (hr20.env.same rfl rfl rfl rfl) rfl (by simp) | exact wanted_zero (hr20.env.same rfl rfl rfl rfl) rfl (by simp [*])) rfl (callable 30 Try.func30) (fails_ok w20 _) ?_
      rintro e21 w21 ⟨rfl, hb21⟩
      refine ⟨_, rfl, ?_⟩
      have h21 := hr20.ret hb21 42 (.ag (ansC (noA 61) (.slice none 0 0))) rfl _ (hr20.all.below hb21) (by simp) rfl
      refine seg cfg29_ok mixed PanicFree.body 1000 [] [] h21 (by first | trivial | exact HpRep.nil | assumption) (by kernel_rfl) fun s_ hs_ => ?_
      simp (maxSteps := 10000000) [SX.vc, SX.stop, SX.contS, SX.sxStep, SX.stepPure, SX.stepNew, SX.stepStore, SX.guardIx, SX.evOp, SX.opd, SX.look, SX.putS, SX.AllP, SX.leave, SX.lookT, SX.evNew, SX.evStore, SX.spliceL, SX.SV.cells, SX.NotAgg, cfg29, ansC, noA]
      refine ⟨by (unfold SX.Ob; first | trivial | omega | ((try simp only [SX.inK]); (try simp [SX.den, SX.IsU8, SX.AllP, *]); (try omega))), ?_⟩
      intro a22 w22 hr22 _
      have hA : leaveA c e = noA 61 := by rw [leaveA, if_neg (by simpa using hH), if_pos (.inl hh)]
      exact post_retn (endC1 hr22 rfl rfl rfl tok43 rfl ⟨.slice none 0 0, D :: Bw, by rw [hA]; rfl, by rw [hA]; exact OwS.nil.rd, fun x hx => (by rcases List.mem_cons.1 hx with rfl | hx; exact .inl rfl; exact .inr (.inr (hBw x hx).1)), hr22.keeps, fun h' => absurd ((congrArg Ans.er hA).symm.trans h') (by decide)⟩).1
    by_cases he : (holdX c.T e.key).e = e.e
    rotate_left
    · refine seg cfg29_ok mixed PanicFree.body 1000 [false, false, true] [] hr2.rebase (by first | trivial | exact HpRep.nil | assumption) (by kernel_rfl) fun sX hsX => ?_
      simp (maxSteps := 10000000) [SX.vc, SX.stop, SX.contS, SX.contB, SX.contR, SX.contD, SX.sxStep, SX.stepPure, SX.stepNew, SX.stepStore, SX.stepKeep, SX.guardIx, SX.evOp, SX.opd, SX.look, SX.putS, SX.gobs, SX.AllP, SX.leave, SX.lookT, SX.lookN, SX.evBin, SX.evInt, SX.evLoad, SX.shapeUp, SX.evFieldAddr, SX.cellsV, SX.evNew, SX.evStore, SX.spliceL, SX.SV.cells, SX.evNil, SX.evUn, SX.TD.isAgg, SX.tails, SX.NotAgg, SX.thaw, SX.frz, SX.Froz, SX.frzStep, Go.Value.cells, cfg29, lseC, hd, hh, he]
      refine ⟨by (unfold SX.Ob; first | trivial | omega | ((try simp only [SX.inK]); (try simp [SX.den, SX.IsU8, SX.AllP, *]); (try omega))), ?_⟩
      intro a20 w20 hr20' _
      have hr20 := hr2.unbase hr20'
      refine post_call 30 [.v (.int .i64 61)] hr20 (by first | exact wanted_none rfl | exact wanted_zero (hr20.env.same rfl rfl rfl rfl) rfl (by simp) | exact wanted_zero (hr20.env.same rfl rfl rfl rfl) rfl (by simp [*])) rfl (callable 30 Try.func30) (fails_ok w20 _) ?_
      rintro e21 w21 ⟨rfl, hb21⟩
      refine ⟨_, rfl, ?_⟩
      have h21 := hr20.ret hb21 42 (.ag (ansC (noA 61) (.slice none 0 0))) rfl _ (hr20.all.below hb21) (by simp) rfl
      refine seg cfg29_ok mixed PanicFree.body 1000 [] [] h21 (by first | trivial | exact HpRep.nil | assumption) (by kernel_rfl) fun s_ hs_ => ?_
      simp (maxSteps := 10000000) [SX.vc, SX.stop, SX.contS, SX.sxStep, SX.stepPure, SX.stepNew, SX.stepStore, SX.guardIx, SX.evOp, SX.opd, SX.look, SX.putS, SX.AllP, SX.leave, SX.lookT, SX.evNew, SX.evStore, SX.spliceL, SX.SV.cells, SX.NotAgg, cfg29, ansC, noA]
      refine ⟨by (unfold SX.Ob; first | trivial | omega | ((try simp only [SX.inK]); (try simp [SX.den, SX.IsU8, SX.AllP, *]); (try omega))), ?_⟩
      intro a22 w22 hr22 _
      have hA : leaveA c e = noA 61 := by rw [leaveA, if_neg (by simpa using hH), if_pos (.inr he)]
      exact post_retn (endC1 hr22 rfl rfl rfl tok43 rfl ⟨.slice none 0 0, D :: Bw, by rw [hA]; rfl, by rw [hA]; exact OwS.nil.rd, fun x hx => (by rcases List.mem_cons.1 hx with rfl | hx; exact .inl rfl; exact .inr (.inr (hBw x hx).1)), hr22.keeps, fun h' => absurd ((congrArg Ans.er hA).symm.trans h') (by decide)⟩).1
    have hE0 : (revE c.T e.key) = 0 := by rw [revE, if_pos hH.1, if_pos hH.2]
    have hkX : ∀ x ∈ [(holdX c.T e.key)], 0 ≤ x.k ∧ x.k ≤ 1000000 := fun x hx => by rw [List.mem_singleton.1 hx]; exact hkey _ (holdX_mem hH)
    refine seg cfg29_ok mixed PanicFree.body 1000 [false, false, false] [] hr2.rebase (by first | trivial | exact HpRep.nil | assumption) (by kernel_rfl) fun sU hsU => ?_
    simp (maxSteps := 10000000) [SX.vc, SX.stop, SX.contS, SX.contB, SX.contR, SX.contD, SX.sxStep, SX.stepPure, SX.stepNew, SX.stepStore, SX.stepKeep, SX.guardIx, SX.evOp, SX.opd, SX.look, SX.putS, SX.gobs, SX.AllP, SX.leave, SX.lookT, SX.lookN, SX.evBin, SX.evInt, SX.evLoad, SX.shapeUp, SX.evFieldAddr, SX.cellsV, SX.evNew, SX.evStore, SX.spliceL, SX.SV.cells, SX.evNil, SX.evUn, SX.TD.isAgg, SX.tails, SX.NotAgg, SX.thaw, SX.frz, SX.Froz, SX.frzStep, SX.fork, Go.Value.cells, cfg29, lseC, hd, hh, he]
    refine ⟨by (unfold SX.Ob; first | trivial | omega | ((try simp only [SX.inK]); (try simp [SX.den, SX.IsU8, SX.AllP, *]); (try omega))), ?_⟩
    intro a9 w9 hr9' ht9
    have hr9 := hr2.unbase hr9'
    have q9 := hpLt hr9.all
    simp at q9
    have z9 : w2.heap.size ≤ w9.heap.size := hr9'.keeps.size
    have hWx := hWm.keep hr9'.keeps (by simp only [mutB]; simp; first | exact hDB | (refine ⟨hDB, ?_⟩; repeat (first | exact hnb _ (by omega) | refine ⟨hnb _ (by omega), ?_⟩)))
    refine post_both ?_ ?_
    · refine post_callD 63 [.ag [.v (.int .i64 c.T.last), .v (.int .i64 c.T.now), .v vL], .v (.int .i64 e.key)] hr9 rfl (by first | exact wanted_none rfl | exact wanted_zero (hr9.env.same rfl rfl rfl rfl) rfl (by simp) | exact wanted_zero (hr9.env.same rfl rfl rfl rfl) rfl (by simp [*])) rfl (callable 63 Try.func63) (Revoke_ok w9 vL c.T e.key (h.L.rd.keep hr9.keeps (sB _ h.nL h.LW)) (by omega)) ?_
      rintro e10 w10 ⟨v10, rfl, hO10, hb10⟩
      have ht10 := HpRep_below ht9 hb10
      refine ⟨_, rfl, ht10, ?_⟩
      have hr10 := hr9.ret hb10 54 (.tu [.ag (tabC (revT c.T e.key) v10), .v (.int .i64 (revE c.T e.key))]) rfl _ (hr9.all.below hb10) (by simp) rfl
      obtain ⟨ad10, cp10, rfl⟩ := hO10.slice
      have q10 := hpLt hr10.all
      simp at q10
      have z10 : w9.heap.size ≤ w10.heap.size := hb10.size
      have hP10 := hO10.mono (P' := fun x => w9.heap.size ≤ x ∧ x < w10.heap.size) fun x h1 h2 => ⟨h2, h1⟩
      have hWn := hWx.below hb10
      refine seg cfg29_ok mixed PanicFree.body 1000 [false] [] hr10.rebase (by first | trivial | exact HpRep.nil | assumption) (by kernel_rfl) fun sX hsX => ?_
      simp (maxSteps := 10000000) [SX.vc, SX.stop, SX.contS, SX.contB, SX.contD, SX.sxStep, SX.stepPure, SX.stepNew, SX.stepStore, SX.stepKeep, SX.guardIx, SX.evOp, SX.opd, SX.opds, SX.look, SX.putS, SX.gobs, SX.AllP, SX.leave, SX.lookT, SX.evBin, SX.evInt, SX.evLoad, SX.shapeUp, SX.evFieldAddr, SX.cellsV, SX.evNew, SX.evStore, SX.spliceL, SX.SV.cells, SX.evNil, SX.TD.isAgg, SX.tails, SX.NotAgg, SX.frz, SX.Froz, SX.frzStep, Go.Value.cells, cfg29, tabC, hE0]
      refine ⟨by (unfold SX.Ob; first | trivial | omega | ((try simp only [SX.inK]); (try simp [SX.den, SX.IsU8, SX.AllP, *]); (try omega))), ?_⟩
      intro a20 w20 hr20' _
      have hr20 := hr10.unbase hr20'
      have q20 := hpLt hr20.all
      simp at q20
      have z20 : w10.heap.size ≤ w20.heap.size := hr20'.keeps.size
      have hO20 := hP10.keep hr20'.keeps (by simp [mutB]; omega)
      have hW20 := hWn.keep hr20'.keeps (by simp only [mutB]; simp; first | exact hDB | (refine ⟨hDB, ?_⟩; repeat (first | exact hnb _ (by omega) | refine ⟨hnb _ (by omega), ?_⟩)))
      have hM20 := (RdS.lit (enc := lseC) (d := lse0) (x := (holdX c.T e.key)) hr20.all.2.2.2.2.1.1 (by simp [lseC, hh, he]))
      refine post_call 60 [.ptr 0 D 0, .sl 4 (sX + 1) 0 0 1 1 4] hr20 (wanted_none rfl) rfl (callable 60 Try.func60) (gone_ok w20 D { c with T := (revT c.T e.key) } e _ vS vW _ [(holdX c.T e.key)] (by simpa [deskC, coC, evC] using hr20.all.1.1) (hS0.keep hr20.keeps (sB _ (fun hx => h.nS hx.1) (fun x hx => h.SW x hx.1))) hW20 hM20 (fun hx => h.nS hx.1) hDB (by omega) (fun x hx hm => h.SW x hx.1 (hBw x hm).1) (fun x hx => hnb x (by omega)) (by simp) n3 n4 hkX) ?_
      rintro e21 w21 ⟨B, vS', vW', rfl, hB, hk21, hD21, hS21, hW21⟩
      refine ⟨_, rfl, ?_⟩
      have hBM : ∀ z ∈ B, z ∈ D :: Bw := fun z hz => List.mem_cons.2 (hB z hz)
      have hBn : ∀ z, w.heap.size ≤ z → ¬ z ∈ B := fun z h1 h2 => (hB z h2).elim (fun h3 => by omega) (fun h3 => hnb z h1 h3)
      have h21 := hr20.retK hk21 (fun z hz => .inr (hBM z hz)) 69 (.tu []) rfl _ (HpAll.wrB hr20.all hk21 hD21 (by simp; repeat (first | exact hBn _ (by omega) | refine ⟨hBn _ (by omega), ?_⟩))) (by simp) rfl
      have hO21 := hO20.keep hk21 (fun z hz hp => hBn z (by omega) hz)
      refine seg cfg29_ok mixed PanicFree.body 1000 [] [] h21.rebase (by first | trivial | exact HpRep.nil | assumption) (by kernel_rfl) fun s_ hs_ => ?_
      simp (maxSteps := 10000000) [SX.vc, SX.stop, SX.contS, SX.contD, SX.sxStep, SX.stepPure, SX.stepNew, SX.stepStore, SX.stepKeep, SX.guardIx, SX.evOp, SX.opd, SX.opds, SX.look, SX.putS, SX.gobs, SX.AllP, SX.leave, SX.lookT, SX.evFill, SX.evBuild, SX.szs, SX.cellsV, SX.evNew, SX.evStore, SX.spliceL, SX.SV.cells, SX.NotAgg, Go.Value.cells, cfg29]
      refine ⟨by (unfold SX.Ob; first | trivial | omega | ((try simp only [SX.inK]); (try simp [SX.den, SX.IsU8, SX.AllP, *]); (try omega))), ?_⟩
      intro a22 w22 hr22' _
      have hr22 := h21.unbase hr22'
      have hO22 := hO21.keep hr22'.keeps (by simp [mutB]; omega)
      have hW22 := hW21.keep hr22'.keeps (by simp only [mutB]; simp; first | exact hDB | (refine ⟨hDB, ?_⟩; repeat (first | exact hnb _ (by omega) | refine ⟨hnb _ (by omega), ?_⟩)))
      have z21 : w20.heap.size ≤ w21.heap.size := hk21.size
      have hS22 := hS21.keep hr22'.keeps (by simp only [mutB]; simp; refine ⟨⟨fun hx => absurd hx h.nS, by omega⟩, ?_⟩; repeat (first | exact ⟨fun _ => by omega, by omega⟩ | refine ⟨⟨fun _ => by omega, by omega⟩, ?_⟩))
      have hTT : (leaveC c e).T = (revT c.T e.key) := gone1_T.1
      have hA : leaveA c e = noA 0 := by rw [leaveA, if_neg (by simpa using hH), if_neg (by simp [hh, he]), hE0]
      exact post_retn (endC1 hr22 rfl rfl rfl tok43 rfl ⟨.slice none 0 0, D :: Bw, by rw [hA]; rfl, by rw [hA]; exact OwS.nil.rd, fun x hx => (by rcases List.mem_cons.1 hx with rfl | hx; exact .inl rfl; exact .inr (.inr (hBw x hx).1)), hr22.keeps, fun _ => ⟨_, vS', vW', hr22.all.1.1, by rw [hTT]; exact hO22.mono fun x _ hx => .inr (by omega), hS22.mono fun x _ hx => hx.elim (fun h1 => .inl h1.1) (fun h1 => .inr (by omega)), hW22.rd.mono fun x _ hx => .inl (hBw x hx).1⟩⟩).1
    · refine seg cfg29_ok mixed PanicFree.body 1000 [] [] hr9.rebase (by first | trivial | exact HpRep.nil | assumption) (by kernel_rfl) fun sV hsV => ?_
      simp (maxSteps := 10000000) [SX.vc, SX.stop, SX.contS, SX.contD, SX.sxStep, SX.stepPure, SX.stepNew, SX.stepStore, SX.stepKeep, SX.guardIx, SX.evOp, SX.opd, SX.opds, SX.look, SX.putS, SX.gobs, SX.AllP, SX.leave, SX.lookT, SX.evFill, SX.evBuild, SX.szs, SX.cellsV, SX.evNew, SX.evStore, SX.spliceL, SX.SV.cells, SX.NotAgg, Go.Value.cells, cfg29]
      refine ⟨by (unfold SX.Ob; first | trivial | omega | ((try simp only [SX.inK]); (try simp [SX.den, SX.IsU8, SX.AllP, *]); (try omega))), ?_⟩
      intro a11 w11 hr11' ht11
      have hr11 := hr9.unbase hr11'
      have q11 := hpLt hr11.all
      simp at q11
      have z11 : w9.heap.size ≤ w11.heap.size := hr11'.keeps.size
      have hWy := hWx.keep hr11'.keeps (by simp only [mutB]; simp; first | exact hDB | (refine ⟨hDB, ?_⟩; repeat (first | exact hnb _ (by omega) | refine ⟨hnb _ (by omega), ?_⟩)))
      refine post_callD 63 [.ag [.v (.int .i64 c.T.last), .v (.int .i64 c.T.now), .v vL], .v (.int .i64 e.key)] hr11 rfl (by first | exact wanted_none rfl | exact wanted_zero (hr11.env.same rfl rfl rfl rfl) rfl (by simp) | exact wanted_zero (hr11.env.same rfl rfl rfl rfl) rfl (by simp [*])) rfl (callable 63 Try.func63) (Revoke_ok w11 vL c.T e.key (h.L.rd.keep hr11.keeps (sB _ h.nL h.LW)) (by omega)) ?_
      rintro e12 w12 ⟨v12, rfl, hO12, hb12⟩
      have ht12 := HpRep_below ht11 hb12
      refine ⟨_, rfl, ht12, ?_⟩
      have hr12 := hr11.ret hb12 54 (.tu [.ag (tabC (revT c.T e.key) v12), .v (.int .i64 (revE c.T e.key))]) rfl _ (hr11.all.below hb12) (by simp) rfl
      obtain ⟨ad12, cp12, rfl⟩ := hO12.slice
      have q12 := hpLt hr12.all
      simp at q12
      have z12 : w11.heap.size ≤ w12.heap.size := hb12.size
      have hP12 := hO12.mono (P' := fun x => w11.heap.size ≤ x ∧ x < w12.heap.size) fun x h1 h2 => ⟨h2, h1⟩
      have hWn := hWy.below hb12
      refine seg cfg29_ok mixed PanicFree.body 1000 [false] [] hr12.rebase (by first | trivial | exact HpRep.nil | assumption) (by kernel_rfl) fun sX hsX => ?_
      simp (maxSteps := 10000000) [SX.vc, SX.stop, SX.contS, SX.contB, SX.contD, SX.sxStep, SX.stepPure, SX.stepNew, SX.stepStore, SX.stepKeep, SX.guardIx, SX.evOp, SX.opd, SX.opds, SX.look, SX.putS, SX.gobs, SX.AllP, SX.leave, SX.lookT, SX.evBin, SX.evInt, SX.evLoad, SX.shapeUp, SX.evFieldAddr, SX.cellsV, SX.evNew, SX.evStore, SX.spliceL, SX.SV.cells, SX.evNil, SX.TD.isAgg, SX.tails, SX.NotAgg, SX.frz, SX.Froz, SX.frzStep, Go.Value.cells, cfg29, tabC, hE0]
      refine ⟨by (unfold SX.Ob; first | trivial | omega | ((try simp only [SX.inK]); (try simp [SX.den, SX.IsU8, SX.AllP, *]); (try omega))), ?_⟩
      intro a20 w20 hr20' _
      have hr20 := hr12.unbase hr20'
      have q20 := hpLt hr20.all
      simp at q20
      have z20 : w12.heap.size ≤ w20.heap.size := hr20'.keeps.size
      have hO20 := hP12.keep hr20'.keeps (by simp [mutB]; omega)
      have hW20 := hWn.keep hr20'.keeps (by simp only [mutB]; simp; first | exact hDB | (refine ⟨hDB, ?_⟩; repeat (first | exact hnb _ (by omega) | refine ⟨hnb _ (by omega), ?_⟩)))
      have hM20 := (RdS.lit (enc := lseC) (d := lse0) (x := (holdX c.T e.key)) hr20.all.2.2.2.2.1.1 (by simp [lseC, hh, he]))
      refine post_call 60 [.ptr 0 D 0, .sl 4 sX 0 0 1 1 4] hr20 (wanted_none rfl) rfl (callable 60 Try.func60) (gone_ok w20 D { c with T := (revT c.T e.key) } e _ vS vW _ [(holdX c.T e.key)] (by simpa [deskC, coC, evC] using hr20.all.1.1) (hS0.keep hr20.keeps (sB _ (fun hx => h.nS hx.1) (fun x hx => h.SW x hx.1))) hW20 hM20 (fun hx => h.nS hx.1) hDB (by omega) (fun x hx hm => h.SW x hx.1 (hBw x hm).1) (fun x hx => hnb x (by omega)) (by simp) n3 n4 hkX) ?_
      rintro e21 w21 ⟨B, vS', vW', rfl, hB, hk21, hD21, hS21, hW21⟩
      refine ⟨_, rfl, ?_⟩
      have hBM : ∀ z ∈ B, z ∈ D :: Bw := fun z hz => List.mem_cons.2 (hB z hz)
      have hBn : ∀ z, w.heap.size ≤ z → ¬ z ∈ B := fun z h1 h2 => (hB z h2).elim (fun h3 => by omega) (fun h3 => hnb z h1 h3)
      have h21 := hr20.retK hk21 (fun z hz => .inr (hBM z hz)) 69 (.tu []) rfl _ (HpAll.wrB hr20.all hk21 hD21 (by simp; repeat (first | exact hBn _ (by omega) | refine ⟨hBn _ (by omega), ?_⟩))) (by simp) rfl
      have hO21 := hO20.keep hk21 (fun z hz hp => hBn z (by omega) hz)
      refine seg cfg29_ok mixed PanicFree.body 1000 [] [] h21.rebase (by first | trivial | exact HpRep.nil | assumption) (by kernel_rfl) fun s_ hs_ => ?_
      simp (maxSteps := 10000000) [SX.vc, SX.stop, SX.contS, SX.contD, SX.sxStep, SX.stepPure, SX.stepNew, SX.stepStore, SX.stepKeep, SX.guardIx, SX.evOp, SX.opd, SX.opds, SX.look, SX.putS, SX.gobs, SX.AllP, SX.leave, SX.lookT, SX.evFill, SX.evBuild, SX.szs, SX.cellsV, SX.evNew, SX.evStore, SX.spliceL, SX.SV.cells, SX.NotAgg, Go.Value.cells, cfg29]
      refine ⟨by (unfold SX.Ob; first | trivial | omega | ((try simp only [SX.inK]); (try simp [SX.den, SX.IsU8, SX.AllP, *]); (try omega))), ?_⟩
      intro a22 w22 hr22' _
      have hr22 := h21.unbase hr22'
      have hO22 := hO21.keep hr22'.keeps (by simp [mutB]; omega)
      have hW22 := hW21.keep hr22'.keeps (by simp only [mutB]; simp; first | exact hDB | (refine ⟨hDB, ?_⟩; repeat (first | exact hnb _ (by omega) | refine ⟨hnb _ (by omega), ?_⟩)))
      have z21 : w20.heap.size ≤ w21.heap.size := hk21.size
      have hS22 := hS21.keep hr22'.keeps (by simp only [mutB]; simp; refine ⟨⟨fun hx => absurd hx h.nS, by omega⟩, ?_⟩; repeat (first | exact ⟨fun _ => by omega, by omega⟩ | refine ⟨⟨fun _ => by omega, by omega⟩, ?_⟩))
      have hTT : (leaveC c e).T = (revT c.T e.key) := gone1_T.1
      have hA : leaveA c e = noA 0 := by rw [leaveA, if_neg (by simpa using hH), if_neg (by simp [hh, he]), hE0]
      exact post_retn (endC1 hr22 rfl rfl rfl tok43 rfl ⟨.slice none 0 0, D :: Bw, by rw [hA]; rfl, by rw [hA]; exact OwS.nil.rd, fun x hx => (by rcases List.mem_cons.1 hx with rfl | hx; exact .inl rfl; exact .inr (.inr (hBw x hx).1)), hr22.keeps, fun _ => ⟨_, vS', vW', hr22.all.1.1, by rw [hTT]; exact hO22.mono fun x _ hx => .inr (by omega), hS22.mono fun x _ hx => hx.elim (fun h1 => .inl h1.1) (fun h1 => .inr (by omega)), hW22.rd.mono fun x _ hx => .inl (hBw x hx).1⟩⟩).1
  · refine seg cfg29_ok mixed PanicFree.body 1000 [] [] hr1.rebase (by first | trivial | exact HpRep.nil | assumption) (by kernel_rfl) fun sT hsT => ?_
    simp (maxSteps := 10000000) [SX.vc, SX.stop, SX.contS, SX.contD, SX.stepPure, SX.stepNew, SX.stepKeep, SX.guardIx, SX.evOp, SX.putS, SX.AllP, SX.lookT, SX.cellsV, SX.evNew, Go.Value.cells, cfg29]
    refine ⟨by (unfold SX.Ob; first | trivial | omega | ((try simp only [SX.inK]); (try simp [SX.den, SX.IsU8, SX.AllP, *]); (try omega))), ?_⟩
    intro a3 w3 hr3' ht3
    have hr3 := hr1.unbase hr3'
    have q3 := hpLt hr3.all
    simp at q3
    have z3 : w1.heap.size ≤ w3.heap.size := hr3'.keeps.size
    have hW3 := hW1.keep hr3'.keeps (by simp only [mutB]; simp; first | exact hDB | (refine ⟨hDB, ?_⟩; repeat (first | exact hnb _ (by omega) | refine ⟨hnb _ (by omega), ?_⟩)))
    refine post_callD 62 [.ag [.v (.int .i64 c.T.last), .v (.int .i64 c.T.now), .v vL], .v (.int .i64 e.key)] hr3 rfl (by first | exact wanted_none rfl | exact wanted_zero (hr3.env.same rfl rfl rfl rfl) rfl (by simp) | exact wanted_zero (hr3.env.same rfl rfl rfl rfl) rfl (by simp [*])) rfl (callable 62 Try.func62) (Holder_ok w3 vL c.T e.key (h.L.rd.keep hr3.keeps (sB _ h.nL h.LW)) (by omega)) ?_
    rintro e4 w4 ⟨rfl, hb4⟩
    have ht4 := HpRep_below ht3 hb4
    refine ⟨_, rfl, ht4, ?_⟩
    have hr4 := hr3.ret hb4 18 (.tu [.ag (lseC (holdX c.T e.key)), .v (.bool (decide (HasT c.T e.key)))]) rfl _ (hr3.all.below hb4) (by simp) rfl
    have q4 := hpLt hr4.all
    simp at q4
    have z4 : w3.heap.size ≤ w4.heap.size := hb4.size
    have hWm := hW3.below hb4
    by_cases hH : HasT c.T e.key
    rotate_left
    · have hd : decide (HasT c.T e.key) = false := decide_eq_false hH
      refine seg cfg29_ok mixed PanicFree.body 1000 [true] [] hr4.rebase (by first | trivial | exact HpRep.nil | assumption) (by kernel_rfl) fun sX hsX => ?_
      simp (maxSteps := 10000000) [SX.vc, SX.stop, SX.contS, SX.contB, SX.contD, SX.sxStep, SX.stepPure, SX.stepNew, SX.stepStore, SX.stepKeep, SX.guardIx, SX.evOp, SX.opd, SX.look, SX.putS, SX.gobs, SX.AllP, SX.leave, SX.lookT, SX.cellsV, SX.evNew, SX.evStore, SX.spliceL, SX.SV.cells, SX.evUn, SX.tails, SX.NotAgg, SX.frz, SX.Froz, SX.frzStep, Go.Value.cells, cfg29, lseC, hd]
      refine ⟨by (unfold SX.Ob; first | trivial | omega | ((try simp only [SX.inK]); (try simp [SX.den, SX.IsU8, SX.AllP, *]); (try omega))), ?_⟩
      intro a20 w20 hr20' _
      have hr20 := hr4.unbase hr20'
      refine post_call 30 [.v (.int .i64 4)] hr20 (by first | exact wanted_none rfl | exact wanted_zero (hr20.env.same rfl rfl rfl rfl) rfl (by simp) | exact wanted_zero (hr20.env.same rfl rfl rfl rfl) rfl (by simp [*])) rfl (callable 30 Try.func30) (fails_ok w20 _) ?_
      rintro e21 w21 ⟨rfl, hb21⟩
      refine ⟨_, rfl, ?_⟩
      have h21 := hr20.ret hb21 24 (.ag (ansC (noA 4) (.slice none 0 0))) rfl _ (hr20.all.below hb21) (by simp) rfl
      refine seg cfg29_ok mixed PanicFree.body 1000 [] [] h21 (by first | trivial | exact HpRep.nil | assumption) (by kernel_rfl) fun s_ hs_ => ?_
      simp (maxSteps := 10000000) [SX.vc, SX.stop, SX.contS, SX.sxStep, SX.stepPure, SX.stepNew, SX.stepStore, SX.guardIx, SX.evOp, SX.opd, SX.look, SX.putS, SX.AllP, SX.leave, SX.lookT, SX.evNew, SX.evStore, SX.spliceL, SX.SV.cells, SX.NotAgg, cfg29, ansC, noA]
      refine ⟨by (unfold SX.Ob; first | trivial | omega | ((try simp only [SX.inK]); (try simp [SX.den, SX.IsU8, SX.AllP, *]); (try omega))), ?_⟩
      intro a22 w22 hr22 _
      have hA : leaveA c e = noA 4 := by rw [leaveA, if_pos hH]
      exact post_retn (endC1 hr22 rfl rfl rfl tok43 rfl ⟨.slice none 0 0, D :: Bw, by rw [hA]; rfl, by rw [hA]; exact OwS.nil.rd, fun x hx => (by rcases List.mem_cons.1 hx with rfl | hx; exact .inl rfl; exact .inr (.inr (hBw x hx).1)), hr22.keeps, fun h' => absurd ((congrArg Ans.er hA).symm.trans h') (by decide)⟩).1
    have hd : decide (HasT c.T e.key) = true := decide_eq_true hH
    by_cases hh : (holdX c.T e.key).h = e.h
    rotate_left
    · refine seg cfg29_ok mixed PanicFree.body 1000 [false, true, true] [] hr4.rebase (by first | trivial | exact HpRep.nil | assumption) (by kernel_rfl) fun sX hsX => ?_
      simp (maxSteps := 10000000) [SX.vc, SX.stop, SX.contS, SX.contB, SX.contR, SX.contD, SX.sxStep, SX.stepPure, SX.stepNew, SX.stepStore, SX.stepKeep, SX.guardIx, SX.evOp, SX.opd, SX.look, SX.putS, SX.gobs, SX.AllP, SX.leave, SX.lookT, SX.lookN, SX.evBin, SX.evInt, SX.evLoad, SX.shapeUp, SX.evFieldAddr, SX.cellsV, SX.evNew, SX.evStore, SX.spliceL, SX.SV.cells, SX.evNil, SX.evUn, SX.TD.isAgg, SX.tails, SX.NotAgg, SX.thaw, SX.frz, SX.Froz, SX.frzStep, Go.Value.cells, cfg29, lseC, hd, hh]
      refine ⟨by (unfold SX.Ob; first | trivial | omega | ((try simp only [SX.inK]); (try simp [SX.den, SX.IsU8, SX.AllP, *]); (try omega))), ?_⟩
      intro a20 w20 hr20' _
      have hr20 := hr4.unbase hr20'
      refine post_call 30 [.v (.int .i64 61)] hr20 (by first | exact wanted_none rfl | exact wanted_zero (hr20.env.same rfl rfl rfl rfl) rfl (by simp) | exact wanted_zero (hr20.env.same rfl rfl rfl rfl) rfl (by simp [*])) rfl (callable 30 Try.func30) (fails_ok w20 _) ?_
      rintro e21 w21 ⟨rfl, hb21⟩
      refine ⟨_, rfl, ?_⟩
      have h21 := hr20.ret hb21 42 (.ag (ansC (noA 61) (.slice none 0 0))) rfl _ (hr20.all.below hb21) (by simp) rfl
      refine seg cfg29_ok mixed PanicFree.body 1000 [] [] h21 (by first | trivial | exact HpRep.nil | assumption) (by kernel_rfl) fun s_ hs_ => ?_
      simp (maxSteps := 10000000) [SX.vc, SX.stop, SX.contS, SX.sxStep, SX.stepPure, SX.stepNew, SX.stepStore, SX.guardIx, SX.evOp, SX.opd, SX.look, SX.putS, SX.AllP, SX.leave, SX.lookT, SX.evNew, SX.evStore, SX.spliceL, SX.SV.cells, SX.NotAgg, cfg29, ansC, noA]
      refine ⟨by (unfold SX.Ob; first | trivial | omega | ((try simp only [SX.inK]); (try simp [SX.den, SX.IsU8, SX.AllP, *]); (try omega))), ?_⟩
      intro a22 w22 hr22 _
      have hA : leaveA c e = noA 61 := by rw [leaveA, if_neg (by simpa using hH), if_pos (.inl hh)]
      exact post_retn (endC1 hr22 rfl rfl rfl tok43 rfl ⟨.slice none 0 0, D :: Bw, by rw [hA]; rfl, by rw [hA]; exact OwS.nil.rd, fun x hx => (by rcases List.mem_cons.1 hx with rfl | hx; exact .inl rfl; exact .inr (.inr (hBw x hx).1)), hr22.keeps, fun h' => absurd ((congrArg Ans.er hA).symm.trans h') (by decide)⟩).1
    by_cases he : (holdX c.T e.key).e = e.e
    rotate_left
    · refine seg cfg29_ok mixed PanicFree.body 1000 [false, false, true] [] hr4.rebase (by first | trivial | exact HpRep.nil | assumption) (by kernel_rfl) fun sX hsX => ?_
      simp (maxSteps := 10000000) [SX.vc, SX.stop, SX.contS, SX.contB, SX.contR, SX.contD, SX.sxStep, SX.stepPure, SX.stepNew, SX.stepStore, SX.stepKeep, SX.guardIx, SX.evOp, SX.opd, SX.look, SX.putS, SX.gobs, SX.AllP, SX.leave, SX.lookT, SX.lookN, SX.evBin, SX.evInt, SX.evLoad, SX.shapeUp, SX.evFieldAddr, SX.cellsV, SX.evNew, SX.evStore, SX.spliceL, SX.SV.cells, SX.evNil, SX.evUn, SX.TD.isAgg, SX.tails, SX.NotAgg, SX.thaw, SX.frz, SX.Froz, SX.frzStep, Go.Value.cells, cfg29, lseC, hd, hh, he]
      refine ⟨by (unfold SX.Ob; first | trivial | omega | ((try simp only [SX.inK]); (try simp [SX.den, SX.IsU8, SX.AllP, *]); (try omega))), ?_⟩
      intro a20 w20 hr20' _
      have hr20 := hr4.unbase hr20'
      refine post_call 30 [.v (.int .i64 61)] hr20 (by first | exact wanted_none rfl | exact wanted_zero (hr20.env.same rfl rfl rfl rfl) rfl (by simp) | exact wanted_zero (hr20.env.same rfl rfl rfl rfl) rfl (by simp [*])) rfl (callable 30 Try.func30) (fails_ok w20 _) ?_
      rintro e21 w21 ⟨rfl, hb21⟩
      refine ⟨_, rfl, ?_⟩
      have h21 := hr20.ret hb21 42 (.ag (ansC (noA 61) (.slice none 0 0))) rfl _ (hr20.all.below hb21) (by simp) rfl
      refine seg cfg29_ok mixed PanicFree.body 1000 [] [] h21 (by first | trivial | exact HpRep.nil | assumption) (by kernel_rfl) fun s_ hs_ => ?_
      simp (maxSteps := 10000000) [SX.vc, SX.stop, SX.contS, SX.sxStep, SX.stepPure, SX.stepNew, SX.stepStore, SX.guardIx, SX.evOp, SX.opd, SX.look, SX.putS, SX.AllP, SX.leave, SX.lookT, SX.evNew, SX.evStore, SX.spliceL, SX.SV.cells, SX.NotAgg, cfg29, ansC, noA]
      refine ⟨by (unfold SX.Ob; first | trivial | omega | ((try simp only [SX.inK]); (try simp [SX.den, SX.IsU8, SX.AllP, *]); (try omega))), ?_⟩
      intro a22 w22 hr22 _
      have hA : leaveA c e = noA 61 := by rw [leaveA, if_neg (by simpa using hH), if_pos (.inr he)]
      exact post_retn (endC1 hr22 rfl rfl rfl tok43 rfl ⟨.slice none 0 0, D :: Bw, by rw [hA]; rfl, by rw [hA]; exact OwS.nil.rd, fun x hx => (by rcases List.mem_cons.1 hx with rfl | hx; exact .inl rfl; exact .inr (.inr (hBw x hx).1)), hr22.keeps, fun h' => absurd ((congrArg Ans.er hA).symm.trans h') (by decide)⟩).1
    have hE0 : (revE c.T e.key) = 0 := by rw [revE, if_pos hH.1, if_pos hH.2]
    have hkX : ∀ x ∈ [(holdX c.T e.key)], 0 ≤ x.k ∧ x.k ≤ 1000000 := fun x hx => by rw [List.mem_singleton.1 hx]; exact hkey _ (holdX_mem hH)
    refine seg cfg29_ok mixed PanicFree.body 1000 [false, false, false] [] hr4.rebase (by first | trivial | exact HpRep.nil | assumption) (by kernel_rfl) fun sU hsU => ?_
    simp (maxSteps := 10000000) [SX.vc, SX.stop, SX.contS, SX.contB, SX.contR, SX.contD, SX.sxStep, SX.stepPure, SX.stepNew, SX.stepStore, SX.stepKeep, SX.guardIx, SX.evOp, SX.opd, SX.look, SX.putS, SX.gobs, SX.AllP, SX.leave, SX.lookT, SX.lookN, SX.evBin, SX.evInt, SX.evLoad, SX.shapeUp, SX.evFieldAddr, SX.cellsV, SX.evNew, SX.evStore, SX.spliceL, SX.SV.cells, SX.evNil, SX.evUn, SX.TD.isAgg, SX.tails, SX.NotAgg, SX.thaw, SX.frz, SX.Froz, SX.frzStep, SX.fork, Go.Value.cells, cfg29, lseC, hd, hh, he]
    refine ⟨by (unfold SX.Ob; first | trivial | omega | ((try simp only [SX.inK]); (try simp [SX.den, SX.IsU8, SX.AllP, *]); (try omega))), ?_⟩
    intro a9 w9 hr9' ht9
    have hr9 := hr4.unbase hr9'
    have q9 := hpLt hr9.all
    simp at q9
    have z9 : w4.heap.size ≤ w9.heap.size := hr9'.keeps.size
    have hWx := hWm.keep hr9'.keeps (by simp only [mutB]; simp; first | exact hDB | (refine ⟨hDB, ?_⟩; repeat (first | exact hnb _ (by omega) | refine ⟨hnb _ (by omega), ?_⟩)))
    refine post_both ?_ ?_
    · refine post_callD 63 [.ag [.v (.int .i64 c.T.last), .v (.int .i64 c.T.now), .v vL], .v (.int .i64 e.key)] hr9 rfl (by first | exact wanted_none rfl | exact wanted_zero (hr9.env.same rfl rfl rfl rfl) rfl (by simp) | exact wanted_zero (hr9.env.same rfl rfl rfl rfl) rfl (by simp [*])) rfl (callable 63 Try.func63) (Revoke_ok w9 vL c.T e.key (h.L.rd.keep hr9.keeps (sB _ h.nL h.LW)) (by omega)) ?_
      rintro e10 w10 ⟨v10, rfl, hO10, hb10⟩
      have ht10 := HpRep_below ht9 hb10
      refine ⟨_, rfl, ht10, ?_⟩
      have hr10 := hr9.ret hb10 54 (.tu [.ag (tabC (revT c.T e.key) v10), .v (.int .i64 (revE c.T e.key))]) rfl _ (hr9.all.below hb10) (by simp) rfl
      obtain ⟨ad10, cp10, rfl⟩ := hO10.slice
      have q10 := hpLt hr10.all
      simp at q10
      have z10 : w9.heap.size ≤ w10.heap.size := hb10.size
      have hP10 := hO10.mono (P' := fun x => w9.heap.size ≤ x ∧ x < w10.heap.size) fun x h1 h2 => ⟨h2, h1⟩
      have hWn := hWx.below hb10
      refine seg cfg29_ok mixed PanicFree.body 1000 [false] [] hr10.rebase (by first | trivial | exact HpRep.nil | assumption) (by kernel_rfl) fun sX hsX => ?_
      simp (maxSteps := 10000000) [SX.vc, SX.stop, SX.contS, SX.contB, SX.contD, SX.sxStep, SX.stepPure, SX.stepNew, SX.stepStore, SX.stepKeep, SX.guardIx, SX.evOp, SX.opd, SX.opds, SX.look, SX.putS, SX.gobs, SX.AllP, SX.leave, SX.lookT, SX.evBin, SX.evInt, SX.evLoad, SX.shapeUp, SX.evFieldAddr, SX.cellsV, SX.evNew, SX.evStore, SX.spliceL, SX.SV.cells, SX.evNil, SX.TD.isAgg, SX.tails, SX.NotAgg, SX.frz, SX.Froz, SX.frzStep, Go.Value.cells, cfg29, tabC, hE0]
      refine ⟨by (unfold SX.Ob; first | trivial | omega | ((try simp only [SX.inK]); (try simp [SX.den, SX.IsU8, SX.AllP, *]); (try omega))), ?_⟩
      intro a20 w20 hr20' _
      have hr20 := hr10.unbase hr20'
      have q20 := hpLt hr20.all
      simp at q20
      have z20 : w10.heap.size ≤ w20.heap.size := hr20'.keeps.size
      have hO20 := hP10.keep hr20'.keeps (by simp [mutB]; omega)
      have hW20 := hWn.keep hr20'.keeps (by simp only [mutB]; simp; first | exact hDB | (refine ⟨hDB, ?_⟩; repeat (first | exact hnb _ (by omega) | refine ⟨hnb _ (by omega), ?_⟩)))
      have hM20 := (RdS.lit (enc := lseC) (d := lse0) (x := (holdX c.T e.key)) hr20.all.2.2.2.2.1.1 (by simp [lseC, hh, he]))
      refine post_call 60 [.ptr 0 D 0, .sl 4 (sX + 1) 0 0 1 1 4] hr20 (wanted_none rfl) rfl (callable 60 Try.func60) (gone_ok w20 D { c with T := (revT c.T e.key) } e _ vS vW _ [(holdX c.T e.key)] (by simpa [deskC, coC, evC] using hr20.all.1.1) (hS0.keep hr20.keeps (sB _ (fun hx => h.nS hx.1) (fun x hx => h.SW x hx.1))) hW20 hM20 (fun hx => h.nS hx.1) hDB (by omega) (fun x hx hm => h.SW x hx.1 (hBw x hm).1) (fun x hx => hnb x (by omega)) (by simp) n3 n4 hkX) ?_
      rintro e21 w21 ⟨B, vS', vW', rfl, hB, hk21, hD21, hS21, hW21⟩
      refine ⟨_, rfl, ?_⟩
      have hBM : ∀ z ∈ B, z ∈ D :: Bw := fun z hz => List.mem_cons.2 (hB z hz)
      have hBn : ∀ z, w.heap.size ≤ z → ¬ z ∈ B := fun z h1 h2 => (hB z h2).elim (fun h3 => by omega) (fun h3 => hnb z h1 h3)
      have h21 := hr20.retK hk21 (fun z hz => .inr (hBM z hz)) 69 (.tu []) rfl _ (HpAll.wrB hr20.all hk21 hD21 (by simp; repeat (first | exact hBn _ (by omega) | refine ⟨hBn _ (by omega), ?_⟩))) (by simp) rfl
      have hO21 := hO20.keep hk21 (fun z hz hp => hBn z (by omega) hz)
      refine seg cfg29_ok mixed PanicFree.body 1000 [] [] h21.rebase (by first | trivial | exact HpRep.nil | assumption) (by kernel_rfl) fun s_ hs_ => ?_
      simp (maxSteps := 10000000) [SX.vc, SX.stop, SX.contS, SX.contD, SX.sxStep, SX.stepPure, SX.stepNew, SX.stepStore, SX.stepKeep, SX.guardIx, SX.evOp, SX.opd, SX.opds, SX.look, SX.putS, SX.gobs, SX.AllP, SX.leave, SX.lookT, SX.evFill, SX.evBuild, SX.szs, SX.cellsV, SX.evNew, SX.evStore, SX.spliceL, SX.SV.cells, SX.NotAgg, Go.Value.cells, cfg29]
      refine ⟨by (unfold SX.Ob; first | trivial | omega | ((try simp only [SX.inK]); (try simp [SX.den, SX.IsU8, SX.AllP, *]); (try omega))), ?_⟩
      intro a22 w22 hr22' _
      have hr22 := h21.unbase hr22'
      have hO22 := hO21.keep hr22'.keeps (by simp [mutB]; omega)
      have hW22 := hW21.keep hr22'.keeps (by simp only [mutB]; simp; first | exact hDB | (refine ⟨hDB, ?_⟩; repeat (first | exact hnb _ (by omega) | refine ⟨hnb _ (by omega), ?_⟩)))
      have z21 : w20.heap.size ≤ w21.heap.size := hk21.size
      have hS22 := hS21.keep hr22'.keeps (by simp only [mutB]; simp; refine ⟨⟨fun hx => absurd hx h.nS, by omega⟩, ?_⟩; repeat (first | exact ⟨fun _ => by omega, by omega⟩ | refine ⟨⟨fun _ => by omega, by omega⟩, ?_⟩))
      have hTT : (leaveC c e).T = (revT c.T e.key) := gone1_T.1
      have hA : leaveA c e = noA 0 := by rw [leaveA, if_neg (by simpa using hH), if_neg (by simp [hh, he]), hE0]
      exact post_retn (endC1 hr22 rfl rfl rfl tok43 rfl ⟨.slice none 0 0, D :: Bw, by rw [hA]; rfl, by rw [hA]; exact OwS.nil.rd, fun x hx => (by rcases List.mem_cons.1 hx with rfl | hx; exact .inl rfl; exact .inr (.inr (hBw x hx).1)), hr22.keeps, fun _ => ⟨_, vS', vW', hr22.all.1.1, by rw [hTT]; exact hO22.mono fun x _ hx => .inr (by omega), hS22.mono fun x _ hx => hx.elim (fun h1 => .inl h1.1) (fun h1 => .inr (by omega)), hW22.rd.mono fun x _ hx => .inl (hBw x hx).1⟩⟩).1
    · refine seg cfg29_ok mixed PanicFree.body 1000 [] [] hr9.rebase (by first | trivial | exact HpRep.nil | assumption) (by kernel_rfl) fun sV hsV => ?_
      simp (maxSteps := 10000000) [SX.vc, SX.stop, SX.contS, SX.contD, SX.sxStep, SX.stepPure, SX.stepNew, SX.stepStore, SX.stepKeep, SX.guardIx, SX.evOp, SX.opd, SX.opds, SX.look, SX.putS, SX.gobs, SX.AllP, SX.leave, SX.lookT, SX.evFill, SX.evBuild, SX.szs, SX.cellsV, SX.evNew, SX.evStore, SX.spliceL, SX.SV.cells, SX.NotAgg, Go.Value.cells, cfg29]
      refine ⟨by (unfold SX.Ob; first | trivial | omega | ((try simp only [SX.inK]); (try simp [SX.den, SX.IsU8, SX.AllP, *]); (try omega))), ?_⟩
      intro a11 w11 hr11' ht11
      have hr11 := hr9.unbase hr11'
      have q11 := hpLt hr11.all
      simp at q11
      have z11 : w9.heap.size ≤ w11.heap.size := hr11'.keeps.size
      have hWy := hWx.keep hr11'.keeps (by simp only [mutB]; simp; first | exact hDB | (refine ⟨hDB, ?_⟩; repeat (first | exact hnb _ (by omega) | refine ⟨hnb _ (by omega), ?_⟩)))
      refine post_callD 63 [.ag [.v (.int .i64 c.T.last), .v (.int .i64 c.T.now), .v vL], .v (.int .i64 e.key)] hr11 rfl (by first | exact wanted_none rfl | exact wanted_zero (hr11.env.same rfl rfl rfl rfl) rfl (by simp) | exact wanted_zero (hr11.env.same rfl rfl rfl rfl) rfl (by simp [*])) rfl (callable 63 Try.func63) (Revoke_ok w11 vL c.T e.key (h.L.rd.keep hr11.keeps (sB _ h.nL h.LW)) (by omega)) ?_
      rintro e12 w12 ⟨v12, rfl, hO12, hb12⟩
      have ht12 := HpRep_below ht11 hb12
      refine ⟨_, rfl, ht12, ?_⟩
      have hr12 := hr11.ret hb12 54 (.tu [.ag (tabC (revT c.T e.key) v12), .v (.int .i64 (revE c.T e.key))]) rfl _ (hr11.all.below hb12) (by simp) rfl
      obtain ⟨ad12, cp12, rfl⟩ := hO12.slice
      have q12 := hpLt hr12.all
      simp at q12
      have z12 : w11.heap.size ≤ w12.heap.size := hb12.size
      have hP12 := hO12.mono (P' := fun x => w11.heap.size ≤ x ∧ x < w12.heap.size) fun x h1 h2 => ⟨h2, h1⟩
      have hWn := hWy.below hb12
      refine seg cfg29_ok mixed PanicFree.body 1000 [false] [] hr12.rebase (by first | trivial | exact HpRep.nil | assumption) (by kernel_rfl) fun sX hsX => ?_
      simp (maxSteps := 10000000) [SX.vc, SX.stop, SX.contS, SX.contB, SX.contD, SX.sxStep, SX.stepPure, SX.stepNew, SX.stepStore, SX.stepKeep, SX.guardIx, SX.evOp, SX.opd, SX.opds, SX.look, SX.putS, SX.gobs, SX.AllP, SX.leave, SX.lookT, SX.evBin, SX.evInt, SX.evLoad, SX.shapeUp, SX.evFieldAddr, SX.cellsV, SX.evNew, SX.evStore, SX.spliceL, SX.SV.cells, SX.evNil, SX.TD.isAgg, SX.tails, SX.NotAgg, SX.frz, SX.Froz, SX.frzStep, Go.Value.cells, cfg29, tabC, hE0]
      refine ⟨by (unfold SX.Ob; first | trivial | omega | ((try simp only [SX.inK]); (try simp [SX.den, SX.IsU8, SX.AllP, *]); (try omega))), ?_⟩
      intro a20 w20 hr20' _
      have hr20 := hr12.unbase hr20'
      have q20 := hpLt hr20.all
      simp at q20
      have z20 : w12.heap.size ≤ w20.heap.size := hr20'.keeps.size
      have hO20 := hP12.keep hr20'.keeps (by simp [mutB]; omega)
      have hW20 := hWn.keep hr20'.keeps (by simp only [mutB]; simp; first | exact hDB | (refine ⟨hDB, ?_⟩; repeat (first | exact hnb _ (by omega) | refine ⟨hnb _ (by omega), ?_⟩)))
      have hM20 := (RdS.lit (enc := lseC) (d := lse0) (x := (holdX c.T e.key)) hr20.all.2.2.2.2.1.1 (by simp [lseC, hh, he]))
      refine post_call 60 [.ptr 0 D 0, .sl 4 sX 0 0 1 1 4] hr20 (wanted_none rfl) rfl (callable 60 Try.func60) (gone_ok w20 D { c with T := (revT c.T e.key) } e _ vS vW _ [(holdX c.T e.key)] (by simpa [deskC, coC, evC] using hr20.all.1.1) (hS0.keep hr20.keeps (sB _ (fun hx => h.nS hx.1) (fun x hx => h.SW x hx.1))) hW20 hM20 (fun hx => h.nS hx.1) hDB (by omega) (fun x hx hm => h.SW x hx.1 (hBw x hm).1) (fun x hx => hnb x (by omega)) (by simp) n3 n4 hkX) ?_
      rintro e21 w21 ⟨B, vS', vW', rfl, hB, hk21, hD21, hS21, hW21⟩
      refine ⟨_, rfl, ?_⟩
      have hBM : ∀ z ∈ B, z ∈ D :: Bw := fun z hz => List.mem_cons.2 (hB z hz)
      have hBn : ∀ z, w.heap.size ≤ z → ¬ z ∈ B := fun z h1 h2 => (hB z h2).elim (fun h3 => by omega) (fun h3 => hnb z h1 h3)
      have h21 := hr20.retK hk21 (fun z hz => .inr (hBM z hz)) 69 (.tu []) rfl _ (HpAll.wrB hr20.all hk21 hD21 (by simp; repeat (first | exact hBn _ (by omega) | refine ⟨hBn _ (by omega), ?_⟩))) (by simp) rfl
      have hO21 := hO20.keep hk21 (fun z hz hp => hBn z (by omega) hz)
      refine seg cfg29_ok mixed PanicFree.body 1000 [] [] h21.rebase (by first | trivial | exact HpRep.nil | assumption) (by kernel_rfl) fun s_ hs_ => ?_
      simp (maxSteps := 10000000) [SX.vc, SX.stop, SX.contS, SX.contD, SX.sxStep, SX.stepPure, SX.stepNew, SX.stepStore, SX.stepKeep, SX.guardIx, SX.evOp, SX.opd, SX.opds, SX.look, SX.putS, SX.gobs, SX.AllP, SX.leave, SX.lookT, SX.evFill, SX.evBuild, SX.szs, SX.cellsV, SX.evNew, SX.evStore, SX.spliceL, SX.SV.cells, SX.NotAgg, Go.Value.cells, cfg29]
      refine ⟨by (unfold SX.Ob; first | trivial | omega | ((try simp only [SX.inK]); (try simp [SX.den, SX.IsU8, SX.AllP, *]); (try omega))), ?_⟩
      intro a22 w22 hr22' _
      have hr22 := h21.unbase hr22'
      have hO22 := hO21.keep hr22'.keeps (by simp [mutB]; omega)
      have hW22 := hW21.keep hr22'.keeps (by simp only [mutB]; simp; first | exact hDB | (refine ⟨hDB, ?_⟩; repeat (first | exact hnb _ (by omega) | refine ⟨hnb _ (by omega), ?_⟩)))
      have z21 : w20.heap.size ≤ w21.heap.size := hk21.size
      have hS22 := hS21.keep hr22'.keeps (by simp only [mutB]; simp; refine ⟨⟨fun hx => absurd hx h.nS, by omega⟩, ?_⟩; repeat (first | exact ⟨fun _ => by omega, by omega⟩ | refine ⟨⟨fun _ => by omega, by omega⟩, ?_⟩))
      have hTT : (leaveC c e).T = (revT c.T e.key) := gone1_T.1
      have hA : leaveA c e = noA 0 := by rw [leaveA, if_neg (by simpa using hH), if_neg (by simp [hh, he]), hE0]
      exact post_retn (endC1 hr22 rfl rfl rfl tok43 rfl ⟨.slice none 0 0, D :: Bw, by rw [hA]; rfl, by rw [hA]; exact OwS.nil.rd, fun x hx => (by rcases List.mem_cons.1 hx with rfl | hx; exact .inl rfl; exact .inr (.inr (hBw x hx).1)), hr22.keeps, fun _ => ⟨_, vS', vW', hr22.all.1.1, by rw [hTT]; exact hO22.mono fun x _ hx => .inr (by omega), hS22.mono fun x _ hx => hx.elim (fun h1 => .inl h1.1) (fun h1 => .inr (by omega)), hW22.rd.mono fun x _ hx => .inl (hBw x hx).1⟩⟩).1
end Go.Proofs.C8
