/- E3: texts of this proof, joined. -/
import Derived.Test.YtbhkpmnieopddaaE2
set_option linter.unusedVariables false
set_option linter.unusedSimpArgs false
set_option linter.unusedSectionVars false
namespace Go.Proofs.C8
open Go Go.Proofs Go.SX Go.RowKit Go.Proofs.L6
theorem hpLt {F : Fr} {w : World} : ∀ {H : Hp}, HpAll F w H → (H.all fun e => decide (e.1 < w.heap.size)) = true
  | [], _ => rfl
  | (b, m, o) :: H, h => by
    rw [List.all_cons, hpLt h.2, decide_eq_true (SO.rep_lt h.1.1)]
    rfl
theorem nP1 {P : Nat → Prop} {D : Nat} (h : ¬ P D) : ∀ x ∈ [D], ¬ P x := fun x hx hp => by
  have e : x = D := by simpa using hx
  subst e
  exact h hp
set_option maxRecDepth 100000 in
set_option maxHeartbeats 8000000 in
theorem dmem_ok {P : Nat → Prop} (w : World) (D : Nat) (c : Co) (e : Evt) (vL vS vW : Value) (hD : (SO.cells (deskC c e vL vS vW) 74).rep w D) (hL : RdL P w vL c.T.L) (hn : c.T.L.length ≤ 100000) : Calls Try.prog 44 (denL [.ptr 0 D 0]).toArray w (Ret w (.v (.bool (decide (memP c e.h))))) := by
  refine enter (F := frame0 w) Try.func44 rfl [.ptr 0 D 0] [(D, false, .cells (deskC c e vL vS vW) 74)] (by simp [Try.f44]) (HpAll.one hD) (keeps0 w) fun a hr => ?_
  refine seg cfg44_ok mixed PanicFree.body 1000 [] [] hr (by first | trivial | exact HpRep.nil | assumption) (by kernel_rfl) fun s_ hs_ => ?_
  simp (maxSteps := 10000000) [SX.vc, SX.stop, SX.contS, SX.contR, SX.contD, SX.sxStep, SX.stepPure, SX.stepNew, SX.stepKeep, SX.guardIx, SX.evOp, SX.opd, SX.look, SX.putS, SX.gobs, SX.AllP, SX.leave, SX.lookT, SX.lookN, SX.evLoad, SX.shapeUp, SX.evFieldAddr, SX.evNew, SX.evNil, SX.env0, SX.TD.isAgg, SX.thaw, cfg44, Try.f44, deskC, coC, evC]
  refine ⟨by (unfold SX.Ob; first | trivial | omega | ((try simp only [SX.inK]); (try simp [SX.den, SX.IsU8, SX.AllP, *]); (try omega))), ?_⟩
  intro a1 w1 hr1 ht1
  refine post_callD 13 [.ag (coC c vL vS vW), .v (.int .i64 e.h)] hr1 rfl (by first | exact wanted_none rfl | exact wanted_zero (hr1.env.same rfl rfl rfl rfl) rfl (by simp) | exact wanted_zero (hr1.env.same rfl rfl rfl rfl) rfl (by simp [*])) rfl (callable 13 Try.func13) (member_ok w1 c vL vS vW e.h (hL.below hr1.keeps.toBelow) hn) ?_
  rintro e2 w2 ⟨rfl, hb2⟩
  have ht2 := HpRep_below ht1 hb2
  refine ⟨_, rfl, ht2, ?_⟩
  have hr2 := hr1.ret hb2 12 (.v (.bool (decide (memP c e.h)))) rfl _ (hr1.all.below hb2) (by simp) rfl
  refine seg cfg44_ok mixed PanicFree.body 1000 [] [] hr2 (by first | trivial | exact HpRep.nil | assumption) (by kernel_rfl) fun s_ hs_ => ?_
  simp (maxSteps := 10000000) [SX.vc, SX.stop, SX.contS, SX.contD, SX.stepPure, SX.guardIx, SX.evOp, SX.opd, SX.look, SX.putS, SX.gobs, SX.AllP, SX.leave, cfg44]
  refine ⟨by (unfold SX.Ob; first | trivial | omega | ((try simp only [SX.inK]); (try simp [SX.den, SX.IsU8, SX.AllP, *]); (try omega))), ?_⟩
  intro a3 w3 hr3 _
  exact post_retn (end1 hr3 rfl rfl ⟨rfl, hr3.keeps.toBelow⟩).1
set_option maxRecDepth 100000 in
set_option maxHeartbeats 8000000 in
theorem next_ok (w : World) (D : Nat) (c : Co) (e : Evt) (vL vS vW : Value) (hD : (SO.cells (deskC c e vL vS vW) 74).rep w D) (h1 : -1 ≤ c.T.last) (h2 : c.T.last ≤ 2305843009213693952) : Calls Try.prog 47 (denL [.ptr 0 D 0]).toArray w (fun ev w' => ev = .returned (.int .i64 (c.T.last + 1)) ∧ KeepsTo w [D] w' ∧ (SO.cells (deskC { c with T := { c.T with last := c.T.last + 1 } } e vL vS vW) 74).rep w' D) := by
  have hE : HpAll ⟨w, w.heap.size, [D]⟩ w [(D, true, .cells (deskC c e vL vS vW) 74)] := ⟨⟨hD, fun _ => .inr (by simp), by simp⟩, trivial⟩
  refine enter (F := ⟨w, w.heap.size, [D]⟩) Try.func47 rfl [.ptr 0 D 0] _ (by simp [Try.f47]) hE (KeepsTo.refl w _) fun a hr => ?_
  refine seg cfg47_ok mixed PanicFree.body 1000 [] [] hr (by first | trivial | exact HpRep.nil | assumption) (by kernel_rfl) fun s_ hs_ => ?_
  simp (maxSteps := 10000000) [SX.vc, SX.stop, SX.contS, SX.sxStep, SX.stepPure, SX.stepNew, SX.stepStore, SX.guardIx, SX.evOp, SX.opd, SX.look, SX.putS, SX.gobs, SX.AllP, SX.leave, SX.lookT, SX.evBin, SX.evInt, SX.arith, SX.evLoad, SX.shapeUp, SX.evFieldAddr, SX.evNew, SX.evStore, SX.spliceL, SX.SV.cells, SX.evNil, SX.env0, SX.TD.isAgg, SX.NotAgg, cfg47, Try.f47, deskC, coC, evC]
  refine ⟨by (unfold SX.Ob; first | trivial | omega | ((try simp only [SX.inK]); (try simp [SX.den, SX.IsU8, SX.AllP, *]); (try omega))), ?_⟩
  intro a1 w1 hr1 _
  exact post_retn (end1 hr1 rfl rfl ⟨rfl, hr1.keeps, by simpa [deskC, coC, evC] using hr1.all.1.1⟩).1
def GrR (w : World) (D : Nat) (c : Co) (e : Evt) (vS vW : Value) (key : Int) (ev : Ending) (w' : World) : Prop :=
  ev = .returned (den (.ag (ansC (grantA c key e.h) (.slice none 0 0)))) ∧ KeepsTo w [D] w' ∧
    (grantE c.T key e.h c.ttl = 0 → ∃ v1, RdL (fun x => w.heap.size ≤ x) w' v1 (grantT c.T key e.h c.ttl).L ∧ (SO.cells (deskC { c with T := grantT c.T key e.h c.ttl } e v1 vS vW) 74).rep w' D)
set_option maxRecDepth 100000 in
set_option maxHeartbeats 64000000 in
theorem grant_ok {P : Nat → Prop} (w : World) (D : Nat) (c : Co) (e : Evt) (vL vS vW : Value) (key : Int) (hD : (SO.cells (deskC c e vL vS vW) 74).rep w D) (hL : RdL P w vL c.T.L) (nP : ¬ P D) (hn : c.T.L.length ≤ 100000) (hl1 : c.T.last ≤ 2305843009213693952) (hl2 : c.T.now ≤ 2305843009213693952) :
    Calls Try.prog 43 (denL [.ptr 0 D 0, .v (.int .i64 key)]).toArray w (GrR w D c e vS vW key) := by
  have hE : HpAll ⟨w, w.heap.size, [D]⟩ w [(D, true, .cells (deskC c e vL vS vW) 74)] := ⟨⟨hD, fun _ => .inr (by simp), by simp⟩, trivial⟩
  refine enter (F := ⟨w, w.heap.size, [D]⟩) Try.func43 rfl [.ptr 0 D 0, .v (.int .i64 key)] _ (by simp [Try.f43]) hE (KeepsTo.refl w _) fun a hr => ?_
  refine seg cfg43_ok mixed PanicFree.body 1000 [] [] hr (by first | trivial | exact HpRep.nil | assumption) (by kernel_rfl) fun sA hsA => ?_
  simp (maxSteps := 10000000) [SX.vc, SX.stop, SX.contS, SX.contR, SX.contD, SX.sxStep, SX.stepPure, SX.stepNew, SX.guardIx, SX.evOp, SX.opd, SX.look, SX.putS, SX.gobs, SX.AllP, SX.leave, SX.lookT, SX.lookN, SX.evLoad, SX.shapeUp, SX.evFieldAddr, SX.cellsV, SX.evNew, SX.evNil, SX.env0, SX.TD.isAgg, SX.thaw, SX.fork, Go.Value.cells, cfg43, Try.f43, deskC, coC, evC]
  refine ⟨by (unfold SX.Ob; first | trivial | omega | ((try simp only [SX.inK]); (try simp [SX.den, SX.IsU8, SX.AllP, *]); (try omega))), ?_⟩
  intro a1 w1 hr1 ht1
  have q1 := hpLt hr1.all
  simp at q1
  refine post_both ?_ ?_
  · refine post_callD 66 [.ag [.v (.int .i64 c.T.last), .v (.int .i64 c.T.now), .v vL], .v (.int .i64 key), .v (.int .i64 e.h), .v (.int .i64 c.ttl)] hr1 rfl (by first | exact wanted_none rfl | exact wanted_zero (hr1.env.same rfl rfl rfl rfl) rfl (by simp) | exact wanted_zero (hr1.env.same rfl rfl rfl rfl) rfl (by simp [*])) rfl (callable 66 Try.func66) (Grant_ok w1 vL c.T key e.h c.ttl (hL.keep hr1.keeps (nP1 nP)) (by omega) hl1 hl2) ?_
    rintro e2 w2 ⟨v2, rfl, hO2, hb2⟩
    have ht2 := HpRep_below ht1 hb2
    refine ⟨_, rfl, ht2, ?_⟩
    have hr2 := hr1.ret hb2 25 (.tu [.ag (tabC (grantT c.T key e.h c.ttl) v2), .ag (lseC (grantX c.T key e.h c.ttl)), .v (.int .i64 (grantE c.T key e.h c.ttl))]) rfl _ (hr1.all.below hb2) (by simp) rfl
    obtain ⟨ad2, cp2, rfl⟩ := hO2.slice
    have q2 := hpLt hr2.all
    simp at q2
    have z2 : w1.heap.size ≤ w2.heap.size := hb2.size
    have hP2 := hO2.mono (P' := fun x => w1.heap.size ≤ x ∧ x < w2.heap.size) fun x h1 h2 => ⟨h2, h1⟩
    refine seg cfg43_ok mixed PanicFree.body 1000 [] [] hr2.rebase (by first | trivial | exact HpRep.nil | assumption) (by kernel_rfl) fun sT hsT => ?_
    simp (maxSteps := 10000000) [SX.vc, SX.stop, SX.contS, SX.contD, SX.stepPure, SX.guardIx, SX.evOp, SX.opd, SX.look, SX.putS, SX.gobs, SX.AllP, SX.fork, tabC, lseC]
    refine ⟨by (unfold SX.Ob; first | trivial | omega | ((try simp only [SX.inK]); (try simp [SX.den, SX.IsU8, SX.AllP, *]); (try omega))), ?_⟩
    intro a3 w3 hr3' ht3
    refine post_both ?_ ?_
    · by_cases hE : (grantE c.T key e.h c.ttl) = 0
      · refine seg cfg43_ok mixed PanicFree.body 1000 [false] [] hr3' (by first | trivial | exact HpRep.nil | assumption) (by kernel_rfl) fun sX hsX => ?_
        simp (maxSteps := 10000000) [SX.vc, SX.stop, SX.contS, SX.contB, SX.contD, SX.sxStep, SX.stepPure, SX.stepNew, SX.stepStore, SX.stepKeep, SX.guardIx, SX.evOp, SX.opd, SX.opds, SX.look, SX.putS, SX.gobs, SX.AllP, SX.leave, SX.lookT, SX.evBin, SX.evInt, SX.evLoad, SX.shapeUp, SX.evFieldAddr, SX.evFill, SX.evBuild, SX.szs, SX.cellsV, SX.evNew, SX.evStore, SX.spliceL, SX.SV.cells, SX.evNil, SX.TD.isAgg, SX.tails, SX.NotAgg, SX.frz, SX.Froz, SX.frzStep, Go.Value.cells, cfg43, tabC, lseC, hE]
        refine ⟨by (unfold SX.Ob; first | trivial | omega | ((try simp only [SX.inK]); (try simp [SX.den, SX.IsU8, SX.AllP, *]); (try omega))), ?_⟩
        intro a20 w20 hr20' _
        have hr20 := hr2.unbase hr20'
        have hO20 := (hP2.keep hr20'.keeps (by simp [mutB]; omega)).mono (P' := fun x => w.heap.size ≤ x) fun x _ h => by omega
        exact post_retn (endC1 hr20 rfl rfl rfl tok43 rfl ⟨by rw [grantA, if_pos hE]; rfl, hr20.keeps, fun _ => ⟨_, hO20, by simpa [deskC, coC, evC] using hr20.all.1.1⟩⟩).1
      · refine seg cfg43_ok mixed PanicFree.body 1000 [true] [] hr3' (by first | trivial | exact HpRep.nil | assumption) (by kernel_rfl) fun sX hsX => ?_
        simp (maxSteps := 10000000) [SX.vc, SX.stop, SX.contS, SX.contB, SX.contD, SX.sxStep, SX.stepPure, SX.stepNew, SX.stepStore, SX.stepKeep, SX.guardIx, SX.evOp, SX.opd, SX.opds, SX.look, SX.putS, SX.gobs, SX.AllP, SX.leave, SX.lookT, SX.evBin, SX.evInt, SX.evLoad, SX.shapeUp, SX.evFieldAddr, SX.evFill, SX.evBuild, SX.szs, SX.cellsV, SX.evNew, SX.evStore, SX.spliceL, SX.SV.cells, SX.evNil, SX.TD.isAgg, SX.tails, SX.NotAgg, SX.frz, SX.Froz, SX.frzStep, Go.Value.cells, cfg43, tabC, lseC, hE]
        refine ⟨by (unfold SX.Ob; first | trivial | omega | ((try simp only [SX.inK]); (try simp [SX.den, SX.IsU8, SX.AllP, *]); (try omega))), ?_⟩
        intro a20 w20 hr20' _
        have hr20 := hr2.unbase hr20'
        refine post_call 30 [.v (.int .i64 (grantE c.T key e.h c.ttl))] hr20 (by first | exact wanted_none rfl | exact wanted_zero (hr20.env.same rfl rfl rfl rfl) rfl (by simp) | exact wanted_zero (hr20.env.same rfl rfl rfl rfl) rfl (by simp [*])) rfl (callable 30 Try.func30) (fails_ok w20 _) ?_
        rintro e21 w21 ⟨rfl, hb21⟩
        refine ⟨_, rfl, ?_⟩
        have h21 := hr20.ret hb21 32 (.ag (ansC (noA (grantE c.T key e.h c.ttl)) (.slice none 0 0))) rfl _ (hr20.all.below hb21) (by simp) rfl
        refine seg cfg43_ok mixed PanicFree.body 1000 [] [] h21 (by first | trivial | exact HpRep.nil | assumption) (by kernel_rfl) fun s_ hs_ => ?_
        simp (maxSteps := 10000000) [SX.vc, SX.stop, SX.contS, SX.sxStep, SX.stepPure, SX.stepNew, SX.stepStore, SX.guardIx, SX.evOp, SX.opd, SX.look, SX.putS, SX.AllP, SX.leave, SX.lookT, SX.evNew, SX.evStore, SX.spliceL, SX.SV.cells, SX.NotAgg, cfg43, ansC, noA]
        refine ⟨by (unfold SX.Ob; first | trivial | omega | ((try simp only [SX.inK]); (try simp [SX.den, SX.IsU8, SX.AllP, *]); (try omega))), ?_⟩
        intro a22 w22 hr22 _
        exact post_retn (endC1 hr22 rfl rfl rfl tok43 rfl ⟨by rw [grantA, if_neg hE]; rfl, hr22.keeps, fun h => absurd h hE⟩).1
    · by_cases hE : (grantE c.T key e.h c.ttl) = 0
      · refine seg cfg43_ok mixed PanicFree.body 1000 [false] [] hr3' (by first | trivial | exact HpRep.nil | assumption) (by kernel_rfl) fun sX hsX => ?_
        simp (maxSteps := 10000000) [SX.vc, SX.stop, SX.contS, SX.contB, SX.contD, SX.sxStep, SX.stepPure, SX.stepNew, SX.stepStore, SX.stepKeep, SX.guardIx, SX.evOp, SX.opd, SX.opds, SX.look, SX.putS, SX.gobs, SX.AllP, SX.leave, SX.lookT, SX.evBin, SX.evInt, SX.evLoad, SX.shapeUp, SX.evFieldAddr, SX.evFill, SX.evBuild, SX.szs, SX.cellsV, SX.evNew, SX.evStore, SX.spliceL, SX.SV.cells, SX.evNil, SX.TD.isAgg, SX.tails, SX.NotAgg, SX.frz, SX.Froz, SX.frzStep, Go.Value.cells, cfg43, tabC, lseC, hE]
        refine ⟨by (unfold SX.Ob; first | trivial | omega | ((try simp only [SX.inK]); (try simp [SX.den, SX.IsU8, SX.AllP, *]); (try omega))), ?_⟩
        intro a20 w20 hr20' _
        have hr20 := hr2.unbase hr20'
        have hO20 := (hP2.keep hr20'.keeps (by simp [mutB]; omega)).mono (P' := fun x => w.heap.size ≤ x) fun x _ h => by omega
        exact post_retn (endC1 hr20 rfl rfl rfl tok43 rfl ⟨by rw [grantA, if_pos hE]; rfl, hr20.keeps, fun _ => ⟨_, hO20, by simpa [deskC, coC, evC] using hr20.all.1.1⟩⟩).1
      · refine seg cfg43_ok mixed PanicFree.body 1000 [true] [] hr3' (by first | trivial | exact HpRep.nil | assumption) (by kernel_rfl) fun sX hsX => ?_
        simp (maxSteps := 10000000) [SX.vc, SX.stop, SX.contS, SX.contB, SX.contD, SX.sxStep, SX.stepPure, SX.stepNew, SX.stepStore, SX.stepKeep, SX.guardIx, SX.evOp, SX.opd, SX.opds, SX.look, SX.putS, SX.gobs, SX.AllP, SX.leave, SX.lookT, SX.evBin, SX.evInt, SX.evLoad, SX.shapeUp, SX.evFieldAddr, SX.evFill, SX.evBuild, SX.szs, SX.cellsV, SX.evNew, SX.evStore, SX.spliceL, SX.SV.cells, SX.evNil, SX.TD.isAgg, SX.tails, SX.NotAgg, SX.frz, SX.Froz, SX.frzStep, Go.Value.cells, cfg43, tabC, lseC, hE]
        refine ⟨by (unfold SX.Ob; first | trivial | omega | ((try simp only [SX.inK]); (try simp [SX.den, SX.IsU8, SX.AllP, *]); (try omega))), ?_⟩
        intro a20 w20 hr20' _
        have hr20 := hr2.unbase hr20'
        refine post_call 30 [.v (.int .i64 (grantE c.T key e.h c.ttl))] hr20 (by first | exact wanted_none rfl | exact wanted_zero (hr20.env.same rfl rfl rfl rfl) rfl (by simp) | exact wanted_zero (hr20.env.same rfl rfl rfl rfl) rfl (by simp [*])) rfl (callable 30 Try.func30) (fails_ok w20 _) ?_
        rintro e21 w21 ⟨rfl, hb21⟩
        refine ⟨_, rfl, ?_⟩
        have h21 := hr20.ret hb21 32 (.ag (ansC (noA (grantE c.T key e.h c.ttl)) (.slice none 0 0))) rfl _ (hr20.all.below hb21) (by simp) rfl
        refine seg cfg43_ok mixed PanicFree.body 1000 [] [] h21 (by first | trivial | exact HpRep.nil | assumption) (by kernel_rfl) fun s_ hs_ => ?_
        simp (maxSteps := 10000000) [SX.vc, SX.stop, SX.contS, SX.sxStep, SX.stepPure, SX.stepNew, SX.stepStore, SX.guardIx, SX.evOp, SX.opd, SX.look, SX.putS, SX.AllP, SX.leave, SX.lookT, SX.evNew, SX.evStore, SX.spliceL, SX.SV.cells, SX.NotAgg, cfg43, ansC, noA]
        refine ⟨by (unfold SX.Ob; first | trivial | omega | ((try simp only [SX.inK]); (try simp [SX.den, SX.IsU8, SX.AllP, *]); (try omega))), ?_⟩
        intro a22 w22 hr22 _
        exact post_retn (endC1 hr22 rfl rfl rfl tok43 rfl ⟨by rw [grantA, if_neg hE]; rfl, hr22.keeps, fun h => absurd h hE⟩).1
  refine post_both ?_ ?_
  · refine seg cfg43_ok mixed PanicFree.body 1000 [] [] hr1 (by first | trivial | exact HpRep.nil | assumption) (by kernel_rfl) fun sT hsT => ?_
    simp (maxSteps := 10000000) [SX.vc, SX.stop, SX.contS, SX.contD, SX.stepPure, SX.stepNew, SX.stepKeep, SX.guardIx, SX.evOp, SX.putS, SX.AllP, SX.lookT, SX.cellsV, SX.evNew, SX.fork, Go.Value.cells, cfg43]
    refine ⟨by (unfold SX.Ob; first | trivial | omega | ((try simp only [SX.inK]); (try simp [SX.den, SX.IsU8, SX.AllP, *]); (try omega))), ?_⟩
    intro a3 w3 hr3 ht3
    have q3 := hpLt hr3.all
    simp at q3
    have z3 : w1.heap.size ≤ w3.heap.size := by omega
    refine post_both ?_ ?_
    · refine post_callD 66 [.ag [.v (.int .i64 c.T.last), .v (.int .i64 c.T.now), .v vL], .v (.int .i64 key), .v (.int .i64 e.h), .v (.int .i64 c.ttl)] hr3 rfl (by first | exact wanted_none rfl | exact wanted_zero (hr3.env.same rfl rfl rfl rfl) rfl (by simp) | exact wanted_zero (hr3.env.same rfl rfl rfl rfl) rfl (by simp [*])) rfl (callable 66 Try.func66) (Grant_ok w3 vL c.T key e.h c.ttl (hL.keep hr3.keeps (nP1 nP)) (by omega) hl1 hl2) ?_
      rintro e4 w4 ⟨v4, rfl, hO4, hb4⟩
      have ht4 := HpRep_below ht3 hb4
      refine ⟨_, rfl, ht4, ?_⟩
      have hr4 := hr3.ret hb4 25 (.tu [.ag (tabC (grantT c.T key e.h c.ttl) v4), .ag (lseC (grantX c.T key e.h c.ttl)), .v (.int .i64 (grantE c.T key e.h c.ttl))]) rfl _ (hr3.all.below hb4) (by simp) rfl
      obtain ⟨ad4, cp4, rfl⟩ := hO4.slice
      have q4 := hpLt hr4.all
      simp at q4
      have z4 : w3.heap.size ≤ w4.heap.size := hb4.size
      have hP4 := hO4.mono (P' := fun x => w3.heap.size ≤ x ∧ x < w4.heap.size) fun x h1 h2 => ⟨h2, h1⟩
      by_cases hE : (grantE c.T key e.h c.ttl) = 0
      · refine seg cfg43_ok mixed PanicFree.body 1000 [false] [] hr4.rebase (by first | trivial | exact HpRep.nil | assumption) (by kernel_rfl) fun sX hsX => ?_
        simp (maxSteps := 10000000) [SX.vc, SX.stop, SX.contS, SX.contB, SX.contD, SX.sxStep, SX.stepPure, SX.stepNew, SX.stepStore, SX.stepKeep, SX.guardIx, SX.evOp, SX.opd, SX.opds, SX.look, SX.putS, SX.gobs, SX.AllP, SX.leave, SX.lookT, SX.evBin, SX.evInt, SX.evLoad, SX.shapeUp, SX.evFieldAddr, SX.evFill, SX.evBuild, SX.szs, SX.cellsV, SX.evNew, SX.evStore, SX.spliceL, SX.SV.cells, SX.evNil, SX.TD.isAgg, SX.tails, SX.NotAgg, SX.frz, SX.Froz, SX.frzStep, Go.Value.cells, cfg43, tabC, lseC, hE]
        refine ⟨by (unfold SX.Ob; first | trivial | omega | ((try simp only [SX.inK]); (try simp [SX.den, SX.IsU8, SX.AllP, *]); (try omega))), ?_⟩
        intro a20 w20 hr20' _
        have hr20 := hr4.unbase hr20'
        have hO20 := (hP4.keep hr20'.keeps (by simp [mutB]; omega)).mono (P' := fun x => w.heap.size ≤ x) fun x _ h => by omega
        exact post_retn (endC1 hr20 rfl rfl rfl tok43 rfl ⟨by rw [grantA, if_pos hE]; rfl, hr20.keeps, fun _ => ⟨_, hO20, by simpa [deskC, coC, evC] using hr20.all.1.1⟩⟩).1
      · refine seg cfg43_ok mixed PanicFree.body 1000 [true] [] hr4.rebase (by first | trivial | exact HpRep.nil | assumption) (by kernel_rfl) fun sX hsX => ?_
        simp (maxSteps := 10000000) [SX.vc, SX.stop, SX.contS, SX.contB, SX.contD, SX.sxStep, SX.stepPure, SX.stepNew, SX.stepStore, SX.stepKeep, SX.guardIx, SX.evOp, SX.opd, SX.opds, SX.look, SX.putS, SX.gobs, SX.AllP, SX.leave, SX.lookT, SX.evBin, SX.evInt, SX.evLoad, SX.shapeUp, SX.evFieldAddr, SX.evFill, SX.evBuild, SX.szs, SX.cellsV, SX.evNew, SX.evStore, SX.spliceL, SX.SV.cells, SX.evNil, SX.TD.isAgg, SX.tails, SX.NotAgg, SX.frz, SX.Froz, SX.frzStep, Go.Value.cells, cfg43, tabC, lseC, hE]
        refine ⟨by (unfold SX.Ob; first | trivial | omega | ((try simp only [SX.inK]); (try simp [SX.den, SX.IsU8, SX.AllP, *]); (try omega))), ?_⟩
        intro a20 w20 hr20' _
        have hr20 := hr4.unbase hr20'
        refine post_call 30 [.v (.int .i64 (grantE c.T key e.h c.ttl))] hr20 (by first | exact wanted_none rfl | exact wanted_zero (hr20.env.same rfl rfl rfl rfl) rfl (by simp) | exact wanted_zero (hr20.env.same rfl rfl rfl rfl) rfl (by simp [*])) rfl (callable 30 Try.func30) (fails_ok w20 _) ?_
        rintro e21 w21 ⟨rfl, hb21⟩
        refine ⟨_, rfl, ?_⟩
        have h21 := hr20.ret hb21 32 (.ag (ansC (noA (grantE c.T key e.h c.ttl)) (.slice none 0 0))) rfl _ (hr20.all.below hb21) (by simp) rfl
        refine seg cfg43_ok mixed PanicFree.body 1000 [] [] h21 (by first | trivial | exact HpRep.nil | assumption) (by kernel_rfl) fun s_ hs_ => ?_
        simp (maxSteps := 10000000) [SX.vc, SX.stop, SX.contS, SX.sxStep, SX.stepPure, SX.stepNew, SX.stepStore, SX.guardIx, SX.evOp, SX.opd, SX.look, SX.putS, SX.AllP, SX.leave, SX.lookT, SX.evNew, SX.evStore, SX.spliceL, SX.SV.cells, SX.NotAgg, cfg43, ansC, noA]
        refine ⟨by (unfold SX.Ob; first | trivial | omega | ((try simp only [SX.inK]); (try simp [SX.den, SX.IsU8, SX.AllP, *]); (try omega))), ?_⟩
        intro a22 w22 hr22 _
        exact post_retn (endC1 hr22 rfl rfl rfl tok43 rfl ⟨by rw [grantA, if_neg hE]; rfl, hr22.keeps, fun h => absurd h hE⟩).1
    · refine seg cfg43_ok mixed PanicFree.body 1000 [] [] hr3 (by first | trivial | exact HpRep.nil | assumption) (by kernel_rfl) fun sU hsU => ?_
      simp (maxSteps := 10000000) [SX.vc, SX.stop, SX.contS, SX.contD, SX.stepPure, SX.stepNew, SX.stepKeep, SX.guardIx, SX.evOp, SX.putS, SX.AllP, SX.lookT, SX.cellsV, SX.evNew, Go.Value.cells, cfg43]
      refine ⟨by (unfold SX.Ob; first | trivial | omega | ((try simp only [SX.inK]); (try simp [SX.den, SX.IsU8, SX.AllP, *]); (try omega))), ?_⟩
      intro a5 w5 hr5 ht5
      have q5 := hpLt hr5.all
      simp at q5
      refine post_callD 66 [.ag [.v (.int .i64 c.T.last), .v (.int .i64 c.T.now), .v vL], .v (.int .i64 key), .v (.int .i64 e.h), .v (.int .i64 c.ttl)] hr5 rfl (by first | exact wanted_none rfl | exact wanted_zero (hr5.env.same rfl rfl rfl rfl) rfl (by simp) | exact wanted_zero (hr5.env.same rfl rfl rfl rfl) rfl (by simp [*])) rfl (callable 66 Try.func66) (Grant_ok w5 vL c.T key e.h c.ttl (hL.keep hr5.keeps (nP1 nP)) (by omega) hl1 hl2) ?_
      rintro e6 w6 ⟨v6, rfl, hO6, hb6⟩
      have ht6 := HpRep_below ht5 hb6
      refine ⟨_, rfl, ht6, ?_⟩
      have hr6 := hr5.ret hb6 25 (.tu [.ag (tabC (grantT c.T key e.h c.ttl) v6), .ag (lseC (grantX c.T key e.h c.ttl)), .v (.int .i64 (grantE c.T key e.h c.ttl))]) rfl _ (hr5.all.below hb6) (by simp) rfl
      obtain ⟨ad6, cp6, rfl⟩ := hO6.slice
      have q6 := hpLt hr6.all
      simp at q6
      have z6 : w5.heap.size ≤ w6.heap.size := hb6.size
      have hP6 := hO6.mono (P' := fun x => w5.heap.size ≤ x ∧ x < w6.heap.size) fun x h1 h2 => ⟨h2, h1⟩
      by_cases hE : (grantE c.T key e.h c.ttl) = 0
      · refine seg cfg43_ok mixed PanicFree.body 1000 [false] [] hr6.rebase (by first | trivial | exact HpRep.nil | assumption) (by kernel_rfl) fun sX hsX => ?_
        simp (maxSteps := 10000000) [SX.vc, SX.stop, SX.contS, SX.contB, SX.contD, SX.sxStep, SX.stepPure, SX.stepNew, SX.stepStore, SX.stepKeep, SX.guardIx, SX.evOp, SX.opd, SX.opds, SX.look, SX.putS, SX.gobs, SX.AllP, SX.leave, SX.lookT, SX.evBin, SX.evInt, SX.evLoad, SX.shapeUp, SX.evFieldAddr, SX.evFill, SX.evBuild, SX.szs, SX.cellsV, SX.evNew, SX.evStore, SX.spliceL, SX.SV.cells, SX.evNil, SX.TD.isAgg, SX.tails, SX.NotAgg, SX.frz, SX.Froz, SX.frzStep, Go.Value.cells, cfg43, tabC, lseC, hE]
        refine ⟨by (unfold SX.Ob; first | trivial | omega | ((try simp only [SX.inK]); (try simp [SX.den, SX.IsU8, SX.AllP, *]); (try omega))), ?_⟩
        intro a20 w20 hr20' _
        have hr20 := hr6.unbase hr20'
        have hO20 := (hP6.keep hr20'.keeps (by simp [mutB]; omega)).mono (P' := fun x => w.heap.size ≤ x) fun x _ h => by omega
        exact post_retn (endC1 hr20 rfl rfl rfl tok43 rfl ⟨by rw [grantA, if_pos hE]; rfl, hr20.keeps, fun _ => ⟨_, hO20, by simpa [deskC, coC, evC] using hr20.all.1.1⟩⟩).1
      · refine seg cfg43_ok mixed PanicFree.body 1000 [true] [] hr6.rebase (by first | trivial | exact HpRep.nil | assumption) (by kernel_rfl) fun sX hsX => ?_
        simp (maxSteps := 10000000) [SX.vc, SX.stop, SX.contS, SX.contB, SX.contD, SX.sxStep, SX.stepPure, SX.stepNew, SX.stepStore, SX.stepKeep, SX.guardIx, SX.evOp, SX.opd, SX.opds, SX.look, SX.putS, SX.gobs, SX.AllP, SX.leave, SX.lookT, SX.evBin, SX.evInt, SX.evLoad, SX.shapeUp, SX.evFieldAddr, SX.evFill, SX.evBuild, SX.szs, SX.cellsV, SX.evNew, SX.evStore, SX.spliceL, SX.SV.cells, SX.evNil, SX.TD.isAgg, SX.tails, SX.NotAgg, SX.frz, SX.Froz, SX.frzStep, Go.Value.cells, cfg43, tabC, lseC, hE]
        refine ⟨by (unfold SX.Ob; first | trivial | omega | ((try simp only [SX.inK]); (try simp [SX.den, SX.IsU8, SX.AllP, *]); (try omega))), ?_⟩
        intro a20 w20 hr20' _
        have hr20 := hr6.unbase hr20'
        refine post_call 30 [.v (.int .i64 (grantE c.T key e.h c.ttl))] hr20 (by first | exact wanted_none rfl | exact wanted_zero (hr20.env.same rfl rfl rfl rfl) rfl (by simp) | exact wanted_zero (hr20.env.same rfl rfl rfl rfl) rfl (by simp [*])) rfl (callable 30 Try.func30) (fails_ok w20 _) ?_
        rintro e21 w21 ⟨rfl, hb21⟩
        refine ⟨_, rfl, ?_⟩
        have h21 := hr20.ret hb21 32 (.ag (ansC (noA (grantE c.T key e.h c.ttl)) (.slice none 0 0))) rfl _ (hr20.all.below hb21) (by simp) rfl
        refine seg cfg43_ok mixed PanicFree.body 1000 [] [] h21 (by first | trivial | exact HpRep.nil | assumption) (by kernel_rfl) fun s_ hs_ => ?_
        simp (maxSteps := 10000000) [SX.vc, SX.stop, SX.contS, SX.sxStep, SX.stepPure, SX.stepNew, SX.stepStore, SX.guardIx, SX.evOp, SX.opd, SX.look, SX.putS, SX.AllP, SX.leave, SX.lookT, SX.evNew, SX.evStore, SX.spliceL, SX.SV.cells, SX.NotAgg, cfg43, ansC, noA]
        refine ⟨by (unfold SX.Ob; first | trivial | omega | ((try simp only [SX.inK]); (try simp [SX.den, SX.IsU8, SX.AllP, *]); (try omega))), ?_⟩
        intro a22 w22 hr22 _
        exact post_retn (endC1 hr22 rfl rfl rfl tok43 rfl ⟨by rw [grantA, if_neg hE]; rfl, hr22.keeps, fun h => absurd h hE⟩).1
  · refine seg cfg43_ok mixed PanicFree.body 1000 [] [] hr1 (by first | trivial | exact HpRep.nil | assumption) (by kernel_rfl) fun sT hsT => ?_
    simp (maxSteps := 10000000) [SX.vc, SX.stop, SX.contS, SX.contD, SX.stepPure, SX.stepNew, SX.stepKeep, SX.guardIx, SX.evOp, SX.putS, SX.AllP, SX.lookT, SX.cellsV, SX.evNew, SX.fork, Go.Value.cells, cfg43]
    refine ⟨by (unfold SX.Ob; first | trivial | omega | ((try simp only [SX.inK]); (try simp [SX.den, SX.IsU8, SX.AllP, *]); (try omega))), ?_⟩
    intro a3 w3 hr3 ht3
    have q3 := hpLt hr3.all
    simp at q3
    have z3 : w1.heap.size ≤ w3.heap.size := by omega
    refine post_both ?_ ?_
    · refine post_callD 66 [.ag [.v (.int .i64 c.T.last), .v (.int .i64 c.T.now), .v vL], .v (.int .i64 key), .v (.int .i64 e.h), .v (.int .i64 c.ttl)] hr3 rfl (by first | exact wanted_none rfl | exact wanted_zero (hr3.env.same rfl rfl rfl rfl) rfl (by simp) | exact wanted_zero (hr3.env.same rfl rfl rfl rfl) rfl (by simp [*])) rfl (callable 66 Try.func66) (Grant_ok w3 vL c.T key e.h c.ttl (hL.keep hr3.keeps (nP1 nP)) (by omega) hl1 hl2) ?_
      rintro e4 w4 ⟨v4, rfl, hO4, hb4⟩
      have ht4 := HpRep_below ht3 hb4
      refine ⟨_, rfl, ht4, ?_⟩
      have hr4 := hr3.ret hb4 25 (.tu [.ag (tabC (grantT c.T key e.h c.ttl) v4), .ag (lseC (grantX c.T key e.h c.ttl)), .v (.int .i64 (grantE c.T key e.h c.ttl))]) rfl _ (hr3.all.below hb4) (by simp) rfl
      obtain ⟨ad4, cp4, rfl⟩ := hO4.slice
      have q4 := hpLt hr4.all
      simp at q4
      have z4 : w3.heap.size ≤ w4.heap.size := hb4.size
      have hP4 := hO4.mono (P' := fun x => w3.heap.size ≤ x ∧ x < w4.heap.size) fun x h1 h2 => ⟨h2, h1⟩
      by_cases hE : (grantE c.T key e.h c.ttl) = 0
      · refine seg cfg43_ok mixed PanicFree.body 1000 [false] [] hr4.rebase (by first | trivial | exact HpRep.nil | assumption) (by kernel_rfl) fun sX hsX => ?_
        simp (maxSteps := 10000000) [SX.vc, SX.stop, SX.contS, SX.contB, SX.contD, SX.sxStep, SX.stepPure, SX.stepNew, SX.stepStore, SX.stepKeep, SX.guardIx, SX.evOp, SX.opd, SX.opds, SX.look, SX.putS, SX.gobs, SX.AllP, SX.leave, SX.lookT, SX.evBin, SX.evInt, SX.evLoad, SX.shapeUp, SX.evFieldAddr, SX.evFill, SX.evBuild, SX.szs, SX.cellsV, SX.evNew, SX.evStore, SX.spliceL, SX.SV.cells, SX.evNil, SX.TD.isAgg, SX.tails, SX.NotAgg, SX.frz, SX.Froz, SX.frzStep, Go.Value.cells, cfg43, tabC, lseC, hE]
        refine ⟨by (unfold SX.Ob; first | trivial | omega | ((try simp only [SX.inK]); (try simp [SX.den, SX.IsU8, SX.AllP, *]); (try omega))), ?_⟩
        intro a20 w20 hr20' _
        have hr20 := hr4.unbase hr20'
        have hO20 := (hP4.keep hr20'.keeps (by simp [mutB]; omega)).mono (P' := fun x => w.heap.size ≤ x) fun x _ h => by omega
        exact post_retn (endC1 hr20 rfl rfl rfl tok43 rfl ⟨by rw [grantA, if_pos hE]; rfl, hr20.keeps, fun _ => ⟨_, hO20, by simpa [deskC, coC, evC] using hr20.all.1.1⟩⟩).1
      · refine seg cfg43_ok mixed PanicFree.body 1000 [true] [] hr4.rebase (by first | trivial | exact HpRep.nil | assumption) (by kernel_rfl) fun sX hsX => ?_
        simp (maxSteps := 10000000) [SX.vc, SX.stop, SX.contS, SX.contB, SX.contD, SX.sxStep, SX.stepPure, SX.stepNew, SX.stepStore, SX.stepKeep, SX.guardIx, SX.evOp, SX.opd, SX.opds, SX.look, SX.putS, SX.gobs, SX.AllP, SX.leave, SX.lookT, SX.evBin, SX.evInt, SX.evLoad, SX.shapeUp, SX.evFieldAddr, SX.evFill, SX.evBuild, SX.szs, SX.cellsV, SX.evNew, SX.evStore, SX.spliceL, SX.SV.cells, SX.evNil, SX.TD.isAgg, SX.tails, SX.NotAgg, SX.frz, SX.Froz, SX.frzStep, Go.Value.cells, cfg43, tabC, lseC, hE]
        refine ⟨by (unfold SX.Ob; first | trivial | omega | ((try simp only [SX.inK]); (try simp [SX.den, SX.IsU8, SX.AllP, *]); (try omega))), ?_⟩
        intro a20 w20 hr20' _
        have hr20 := hr4.unbase hr20'
        refine post_call 30 [.v (.int .i64 (grantE c.T key e.h c.ttl))] hr20 (by first | exact wanted_none rfl | exact wanted_zero (hr20.env.same rfl rfl rfl rfl) rfl (by simp) | exact wanted_zero (hr20.env.same rfl rfl rfl rfl) rfl (by simp [*])) rfl (callable 30 Try.func30) (fails_ok w20 _) ?_
        rintro e21 w21 ⟨rfl, hb21⟩
        refine ⟨_, rfl, ?_⟩
        have h21 := hr20.ret hb21 32 (.ag (ansC (noA (grantE c.T key e.h c.ttl)) (.slice none 0 0))) rfl _ (hr20.all.below hb21) (by simp) rfl
        refine seg cfg43_ok mixed PanicFree.body 1000 [] [] h21 (by first | trivial | exact HpRep.nil | assumption) (by kernel_rfl) fun s_ hs_ => ?_
        simp (maxSteps := 10000000) [SX.vc, SX.stop, SX.contS, SX.sxStep, SX.stepPure, SX.stepNew, SX.stepStore, SX.guardIx, SX.evOp, SX.opd, SX.look, SX.putS, SX.AllP, SX.leave, SX.lookT, SX.evNew, SX.evStore, SX.spliceL, SX.SV.cells, SX.NotAgg, cfg43, ansC, noA]
        refine ⟨by (unfold SX.Ob; first | trivial | omega | ((try simp only [SX.inK]); (try simp [SX.den, SX.IsU8, SX.AllP, *]); (try omega))), ?_⟩
        intro a22 w22 hr22 _
        exact post_retn (endC1 hr22 rfl rfl rfl tok43 rfl ⟨by rw [grantA, if_neg hE]; rfl, hr22.keeps, fun h => absurd h hE⟩).1
    · refine seg cfg43_ok mixed PanicFree.body 1000 [] [] hr3 (by first | trivial | exact HpRep.nil | assumption) (by kernel_rfl) fun sU hsU => ?_
      simp (maxSteps := 10000000) [SX.vc, SX.stop, SX.contS, SX.contD, SX.stepPure, SX.stepNew, SX.stepKeep, SX.guardIx, SX.evOp, SX.putS, SX.AllP, SX.lookT, SX.cellsV, SX.evNew, Go.Value.cells, cfg43]
      refine ⟨by (unfold SX.Ob; first | trivial | omega | ((try simp only [SX.inK]); (try simp [SX.den, SX.IsU8, SX.AllP, *]); (try omega))), ?_⟩
      intro a5 w5 hr5 ht5
      have q5 := hpLt hr5.all
      simp at q5
      refine post_callD 66 [.ag [.v (.int .i64 c.T.last), .v (.int .i64 c.T.now), .v vL], .v (.int .i64 key), .v (.int .i64 e.h), .v (.int .i64 c.ttl)] hr5 rfl (by first | exact wanted_none rfl | exact wanted_zero (hr5.env.same rfl rfl rfl rfl) rfl (by simp) | exact wanted_zero (hr5.env.same rfl rfl rfl rfl) rfl (by simp [*])) rfl (callable 66 Try.func66) (Grant_ok w5 vL c.T key e.h c.ttl (hL.keep hr5.keeps (nP1 nP)) (by omega) hl1 hl2) ?_
      rintro e6 w6 ⟨v6, rfl, hO6, hb6⟩
      have ht6 := HpRep_below ht5 hb6
      refine ⟨_, rfl, ht6, ?_⟩
      have hr6 := hr5.ret hb6 25 (.tu [.ag (tabC (grantT c.T key e.h c.ttl) v6), .ag (lseC (grantX c.T key e.h c.ttl)), .v (.int .i64 (grantE c.T key e.h c.ttl))]) rfl _ (hr5.all.below hb6) (by simp) rfl
      obtain ⟨ad6, cp6, rfl⟩ := hO6.slice
      have q6 := hpLt hr6.all
      simp at q6
      have z6 : w5.heap.size ≤ w6.heap.size := hb6.size
      have hP6 := hO6.mono (P' := fun x => w5.heap.size ≤ x ∧ x < w6.heap.size) fun x h1 h2 => ⟨h2, h1⟩
      by_cases hE : (grantE c.T key e.h c.ttl) = 0
      · refine seg cfg43_ok mixed PanicFree.body 1000 [false] [] hr6.rebase (by first | trivial | exact HpRep.nil | assumption) (by kernel_rfl) fun sX hsX => ?_
        simp (maxSteps := 10000000) [SX.vc, SX.stop, SX.contS, SX.contB, SX.contD, SX.sxStep, SX.stepPure, SX.stepNew, SX.stepStore, SX.stepKeep, SX.guardIx, SX.evOp, SX.opd, SX.opds, SX.look, SX.putS, SX.gobs, SX.AllP, SX.leave, SX.lookT, SX.evBin, SX.evInt, SX.evLoad, SX.shapeUp, SX.evFieldAddr, SX.evFill, SX.evBuild, SX.szs, SX.cellsV, SX.evNew, SX.evStore, SX.spliceL, SX.SV.cells, SX.evNil, SX.TD.isAgg, SX.tails, SX.NotAgg, SX.frz, SX.Froz, SX.frzStep, Go.Value.cells, cfg43, tabC, lseC, hE]
        refine ⟨by (unfold SX.Ob; first | trivial | omega | ((try simp only [SX.inK]); (try simp [SX.den, SX.IsU8, SX.AllP, *]); (try omega))), ?_⟩
        intro a20 w20 hr20' _
        have hr20 := hr6.unbase hr20'
        have hO20 := (hP6.keep hr20'.keeps (by simp [mutB]; omega)).mono (P' := fun x => w.heap.size ≤ x) fun x _ h => by omega
        exact post_retn (endC1 hr20 rfl rfl rfl tok43 rfl ⟨by rw [grantA, if_pos hE]; rfl, hr20.keeps, fun _ => ⟨_, hO20, by simpa [deskC, coC, evC] using hr20.all.1.1⟩⟩).1
      · refine seg cfg43_ok mixed PanicFree.body 1000 [true] [] hr6.rebase (by first | trivial | exact HpRep.nil | assumption) (by kernel_rfl) fun sX hsX => ?_
        simp (maxSteps := 10000000) [SX.vc, SX.stop, SX.contS, SX.contB, SX.contD, SX.sxStep, SX.stepPure, SX.stepNew, SX.stepStore, SX.stepKeep, SX.guardIx, SX.evOp, SX.opd, SX.opds, SX.look, SX.putS, SX.gobs, SX.AllP, SX.leave, SX.lookT, SX.evBin, SX.evInt, SX.evLoad, SX.shapeUp, SX.evFieldAddr, SX.evFill, SX.evBuild, SX.szs, SX.cellsV, SX.evNew, SX.evStore, SX.spliceL, SX.SV.cells, SX.evNil, SX.TD.isAgg, SX.tails, SX.NotAgg, SX.frz, SX.Froz, SX.frzStep, Go.Value.cells, cfg43, tabC, lseC, hE]
        refine ⟨by (unfold SX.Ob; first | trivial | omega | ((try simp only [SX.inK]); (try simp [SX.den, SX.IsU8, SX.AllP, *]); (try omega))), ?_⟩
        intro a20 w20 hr20' _
        have hr20 := hr6.unbase hr20'
        refine post_call 30 [.v (.int .i64 (grantE c.T key e.h c.ttl))] hr20 (by first | exact wanted_none rfl | exact wanted_zero (hr20.env.same rfl rfl rfl rfl) rfl (by simp) | exact wanted_zero (hr20.env.same rfl rfl rfl rfl) rfl (by simp [*])) rfl (callable 30 Try.func30) (fails_ok w20 _) ?_
        rintro e21 w21 ⟨rfl, hb21⟩
        refine ⟨_, rfl, ?_⟩
        have h21 := hr20.ret hb21 32 (.ag (ansC (noA (grantE c.T key e.h c.ttl)) (.slice none 0 0))) rfl _ (hr20.all.below hb21) (by simp) rfl
        refine seg cfg43_ok mixed PanicFree.body 1000 [] [] h21 (by first | trivial | exact HpRep.nil | assumption) (by kernel_rfl) fun s_ hs_ => ?_
        simp (maxSteps := 10000000) [SX.vc, SX.stop, SX.contS, SX.sxStep, SX.stepPure, SX.stepNew, SX.stepStore, SX.guardIx, SX.evOp, SX.opd, SX.look, SX.putS, SX.AllP, SX.leave, SX.lookT, SX.evNew, SX.evStore, SX.spliceL, SX.SV.cells, SX.NotAgg, cfg43, ansC, noA]
        refine ⟨by (unfold SX.Ob; first | trivial | omega | ((try simp only [SX.inK]); (try simp [SX.den, SX.IsU8, SX.AllP, *]); (try omega))), ?_⟩
        intro a22 w22 hr22 _
        exact post_retn (endC1 hr22 rfl rfl rfl tok43 rfl ⟨by rw [grantA, if_neg hE]; rfl, hr22.keeps, fun h => absurd h hE⟩).1
end Go.Proofs.C8
namespace Go.Proofs.C8
open Go Go.Proofs Go.SX Go.RowKit Go.Proofs.L6
structure Dsk (QL QS QW : Nat → Prop) (D : Nat) (w : World) (c : Co) (e : Evt) (vL vS vW : Value) : Prop where
  rep : (SO.cells (deskC c e vL vS vW) 74).rep w D
  L : OwL QL w vL c.T.L
  S : RdP QS w vS c.S
  W : OwF QW w vW c.W
  nL : ¬ QL D
  nS : ¬ QS D
  nW : ¬ QW D
  LW : ∀ x, QL x → ¬ QW x
  SW : ∀ x, QS x → ¬ QW x
  SL : ∀ x, QS x → ¬ QL x
structure Small (c : Co) : Prop where
  n1 : c.T.L.length ≤ 50000
  n2 : 0 < c.S.length
  n3 : c.S.length ≤ 50000
  n4 : c.W.length ≤ 50000
  l1 : -1 ≤ c.T.last
  l2 : c.T.last ≤ 2305843009213693951
  t1 : -1 ≤ c.T.now
  t2 : c.T.now ≤ 2305843009213693952
  u1 : 0 ≤ c.ttl
  u2 : c.ttl ≤ 1073741824
def OpR (QL QS QW : Nat → Prop) (D : Nat) (w : World) (e : Evt) (A : Ans) (c' : Co) (ev : Ending) (w' : World) : Prop :=
  ∃ va B, ev = .returned (den (.ag (ansC A va))) ∧ RdF (fun x => w.heap.size ≤ x) w' va A.L ∧ (∀ x ∈ B, x = D ∨ QL x ∨ QW x) ∧ KeepsTo w B w' ∧
    (A.er = 0 → ∃ vL vS vW, (SO.cells (deskC c' e vL vS vW) 74).rep w' D ∧ RdL (fun x => QL x ∨ w.heap.size ≤ x) w' vL c'.T.L ∧ RdP (fun x => QS x ∨ w.heap.size ≤ x) w' vS c'.S ∧ RdF (fun x => QW x ∨ w.heap.size ≤ x) w' vW c'.W)
theorem HpAll.wr {F : Fr} {w w' : World} {D : Nat} {m : Bool} {o o' : SO} {H : Hp} (h : HpAll F w ((D, m, o) :: H)) (hk : KeepsTo w [D] w') (hn : o'.rep w' D) : HpAll F w' ((D, m, o') :: H) :=
  ⟨⟨hn, h.1.2.1, h.1.2.2⟩, HpAll.to hk h.2 fun e he => by simpa using (h.1.2.2 e he).symm⟩
theorem grantA_L {c : Co} {k h : Int} : (grantA c k h).L = [] := by unfold grantA; split <;> rfl
theorem grantA_er {c : Co} {k h : Int} : (grantA c k h).er = grantE c.T k h c.ttl := by
  unfold grantA
  split
  · rename_i h'
    rw [h']
    rfl
  · rfl
set_option maxRecDepth 100000 in
set_option maxHeartbeats 16000000 in
theorem join_ok {QL QS QW : Nat → Prop} (w : World) (D : Nat) (c : Co) (e : Evt) (vL vS vW : Value) (h : Dsk QL QS QW D w c e vL vS vW) (hs : Small c) (h0 : 0 ≤ e.h) (h8 : e.h < 8) :
    Calls Try.prog 22 (denL [.ptr 0 D 0]).toArray w (OpR QL QS QW D w e (grantA c (2000 + e.h) e.h) (grantC c (2000 + e.h) e.h)) := by
  have n1 := hs.n1
  have l2 := hs.l2
  have t2 := hs.t2
  have hE : HpAll ⟨w, w.heap.size, [D]⟩ w [(D, true, .cells (deskC c e vL vS vW) 74)] := ⟨⟨h.rep, fun _ => .inr (by simp), by simp⟩, trivial⟩
  refine enter (F := ⟨w, w.heap.size, [D]⟩) Try.func22 rfl [.ptr 0 D 0] _ (by simp [Try.f22]) hE (KeepsTo.refl w _) fun a hr => ?_
  refine seg cfg22_ok mixed PanicFree.body 1000 [] [] hr (by first | trivial | exact HpRep.nil | assumption) (by kernel_rfl) fun sA hsA => ?_
  simp (maxSteps := 10000000) [SX.vc, SX.stop, SX.contS, SX.sxStep, SX.stepPure, SX.stepNew, SX.stepStore, SX.guardIx, SX.evOp, SX.opd, SX.look, SX.putS, SX.gobs, SX.AllP, SX.leave, SX.lookT, SX.evBin, SX.evInt, SX.arith, SX.evLoad, SX.shapeUp, SX.evFieldAddr, SX.cellsV, SX.evNew, SX.evStore, SX.evNil, SX.env0, SX.TD.isAgg, Go.Value.cells, cfg22, Try.f22, deskC, coC, evC]
  refine ⟨by (unfold SX.Ob; first | trivial | omega | ((try simp only [SX.inK]); (try simp [SX.den, SX.IsU8, SX.AllP, *]); (try omega))), ?_⟩
  intro a1 w1 hr1 _
  have q1 := hpLt hr1.all
  simp at q1
  have z1 : w.heap.size ≤ w1.heap.size := hr1.keeps.size
  refine post_call 43 [.ptr 0 D 0, .v (.int .i64 (2000 + e.h))] hr1 (wanted_none rfl) rfl (callable 43 Try.func43) (grant_ok w1 D c e vL vS vW (2000 + e.h) (by simpa [deskC, coC, evC] using hr1.all.1.1) (h.L.rd.keep hr1.keeps (nP1 h.nL)) h.nL (by omega) (by omega) t2) ?_
  rintro e2 w2 ⟨rfl, hk2, hg2⟩
  refine ⟨_, rfl, ?_⟩
  by_cases hE0 : grantE c.T (2000 + e.h) e.h c.ttl = 0
  · obtain ⟨v1, hv1, hD2⟩ := hg2 hE0
    have h2 := hr1.retK hk2 (fun z hz => .inr hz) 10 (.ag (ansC (grantA c (2000 + e.h) e.h) (.slice none 0 0))) rfl _ (HpAll.wr hr1.all hk2 hD2) (by simp) rfl
    refine seg cfg22_ok mixed PanicFree.body 1000 [] [] h2.rebase (by first | trivial | exact HpRep.nil | assumption) (by kernel_rfl) fun s_ hs_ => ?_
    simp (maxSteps := 10000000) [SX.vc, SX.stop, SX.contS, SX.sxStep, SX.stepPure, SX.stepNew, SX.stepStore, SX.guardIx, SX.evOp, SX.opd, SX.look, SX.putS, SX.AllP, SX.leave, SX.lookT, SX.evNew, SX.evStore, SX.spliceL, SX.SV.cells, SX.NotAgg, cfg22, ansC]
    refine ⟨by (unfold SX.Ob; first | trivial | omega | ((try simp only [SX.inK]); (try simp [SX.den, SX.IsU8, SX.AllP, *]); (try omega))), ?_⟩
    intro a3 w3 hr3' _
    have hr3 := h2.unbase hr3'
    have hv3 := hv1.keep hr3'.keeps (by simp [mutB]; omega)
    exact post_retn (endC1 hr3 rfl rfl rfl tok43 rfl ⟨.slice none 0 0, [D], rfl, by rw [grantA_L]; exact OwS.nil.rd, fun x hx => .inl (by simpa using hx), hr3.keeps, fun _ => ⟨v1, vS, vW, hr3.all.1.1, hv3.mono fun x _ hx => .inr (by omega), (h.S.keep hr3.keeps (nP1 h.nS)).mono fun x _ hx => .inl hx, (h.W.rd.keep hr3.keeps (nP1 h.nW)).mono fun x _ hx => .inl hx⟩⟩).1
  · have hDl : D < w2.heap.size := Nat.lt_of_lt_of_le q1.1 hk2.size
    have h2 := hr1.retK hk2 (fun z hz => .inr hz) 10 (.ag (ansC (grantA c (2000 + e.h) e.h) (.slice none 0 0))) rfl _ (HpAll.wr (o' := .any) hr1.all hk2 hDl) (by simp) rfl
    refine seg cfg22_ok mixed PanicFree.body 1000 [] [] h2 (by first | trivial | exact HpRep.nil | assumption) (by kernel_rfl) fun s_ hs_ => ?_
    simp (maxSteps := 10000000) [SX.vc, SX.stop, SX.contS, SX.sxStep, SX.stepPure, SX.stepNew, SX.stepStore, SX.guardIx, SX.evOp, SX.opd, SX.look, SX.putS, SX.AllP, SX.leave, SX.lookT, SX.evNew, SX.evStore, SX.spliceL, SX.SV.cells, SX.NotAgg, cfg22, ansC]
    refine ⟨by (unfold SX.Ob; first | trivial | omega | ((try simp only [SX.inK]); (try simp [SX.den, SX.IsU8, SX.AllP, *]); (try omega))), ?_⟩
    intro a3 w3 hr3 _
    exact post_retn (endC1 hr3 rfl rfl rfl tok43 rfl ⟨.slice none 0 0, [D], rfl, by rw [grantA_L]; exact OwS.nil.rd, fun x hx => .inl (by simpa using hx), hr3.keeps, fun h' => absurd (grantA_er.symm.trans h') hE0⟩).1
set_option maxRecDepth 100000 in
set_option maxHeartbeats 16000000 in
theorem elect_ok {QL QS QW : Nat → Prop} (w : World) (D : Nat) (c : Co) (e : Evt) (vL vS vW : Value) (h : Dsk QL QS QW D w c e vL vS vW) (hs : Small c) :
    Calls Try.prog 26 (denL [.ptr 0 D 0]).toArray w (OpR QL QS QW D w e (electA c e) (grantC c 1000 e.h)) := by
  have n1 := hs.n1
  have l2 := hs.l2
  have t2 := hs.t2
  have hE : HpAll ⟨w, w.heap.size, [D]⟩ w [(D, true, .cells (deskC c e vL vS vW) 74)] := ⟨⟨h.rep, fun _ => .inr (by simp), by simp⟩, trivial⟩
  refine enter (F := ⟨w, w.heap.size, [D]⟩) Try.func26 rfl [.ptr 0 D 0] _ (by simp [Try.f26]) hE (KeepsTo.refl w _) fun a hr => ?_
  refine seg cfg26_ok mixed PanicFree.body 1000 [] [] hr (by first | trivial | exact HpRep.nil | assumption) (by kernel_rfl) fun sA hsA => ?_
  simp (maxSteps := 10000000) [SX.vc, SX.stop, SX.contS, SX.sxStep, SX.stepPure, SX.stepNew, SX.stepStore, SX.guardIx, SX.evOp, SX.opd, SX.look, SX.putS, SX.gobs, SX.AllP, SX.leave, SX.lookT, SX.cellsV, SX.evNew, SX.evStore, SX.env0, Go.Value.cells, cfg26, Try.f26]
  refine ⟨by (unfold SX.Ob; first | trivial | omega | ((try simp only [SX.inK]); (try simp [SX.den, SX.IsU8, SX.AllP, *]); (try omega))), ?_⟩
  intro a1 w1 hr1 _
  have q1 := hpLt hr1.all
  simp at q1
  have z1 : w.heap.size ≤ w1.heap.size := hr1.keeps.size
  refine post_call 44 [.ptr 0 D 0] hr1 (by first | exact wanted_none rfl | exact wanted_zero (hr1.env.same rfl rfl rfl rfl) rfl (by simp) | exact wanted_zero (hr1.env.same rfl rfl rfl rfl) rfl (by simp [*])) rfl (callable 44 Try.func44) (dmem_ok w1 D c e vL vS vW hr1.all.1.1 (h.L.rd.keep hr1.keeps (nP1 h.nL)) (by omega)) ?_
  rintro e2 w2 ⟨rfl, hb2⟩
  refine ⟨_, rfl, ?_⟩
  have h2 := hr1.ret hb2 4 (.v (.bool (decide (memP c e.h)))) rfl _ (hr1.all.below hb2) (by simp) rfl
  by_cases hm : memP c e.h
  rotate_left
  · have hb : decide (memP c e.h) = false := decide_eq_false hm
    refine seg cfg26_ok mixed PanicFree.body 1000 [true] [] h2 (by first | trivial | exact HpRep.nil | assumption) (by kernel_rfl) fun s_ hs_ => ?_
    simp (maxSteps := 10000000) [SX.vc, SX.stop, SX.contS, SX.contB, SX.sxStep, SX.stepPure, SX.stepNew, SX.stepStore, SX.guardIx, SX.evOp, SX.opd, SX.look, SX.putS, SX.gobs, SX.AllP, SX.leave, SX.evNew, SX.evStore, SX.evUn, cfg26, hb]
    refine ⟨by (unfold SX.Ob; first | trivial | omega | ((try simp only [SX.inK]); (try simp [SX.den, SX.IsU8, SX.AllP, *]); (try omega))), ?_⟩
    intro a3 w3 hr3 _
    refine post_call 30 [.v (.int .i64 4)] hr3 (by first | exact wanted_none rfl | exact wanted_zero (hr3.env.same rfl rfl rfl rfl) rfl (by simp) | exact wanted_zero (hr3.env.same rfl rfl rfl rfl) rfl (by simp [*])) rfl (callable 30 Try.func30) (fails_ok w3 4) ?_
    rintro e4 w4 ⟨rfl, hb4⟩
    refine ⟨_, rfl, ?_⟩
    have h4 := hr3.ret hb4 6 (.ag (ansC (noA 4) (.slice none 0 0))) rfl _ (hr3.all.below hb4) (by simp) rfl
    refine seg cfg26_ok mixed PanicFree.body 1000 [] [] h4 (by first | trivial | exact HpRep.nil | assumption) (by kernel_rfl) fun s_ hs_ => ?_
    simp (maxSteps := 10000000) [SX.vc, SX.stop, SX.contS, SX.sxStep, SX.stepPure, SX.stepNew, SX.stepStore, SX.guardIx, SX.evOp, SX.opd, SX.look, SX.putS, SX.AllP, SX.leave, SX.lookT, SX.evNew, SX.evStore, SX.spliceL, SX.SV.cells, SX.NotAgg, cfg26, ansC, noA]
    refine ⟨by (unfold SX.Ob; first | trivial | omega | ((try simp only [SX.inK]); (try simp [SX.den, SX.IsU8, SX.AllP, *]); (try omega))), ?_⟩
    intro a5 w5 hr5 _
    exact post_retn (endC1 hr5 rfl rfl rfl tok43 rfl ⟨.slice none 0 0, [D], by rw [electA, if_pos hm]; rfl, by rw [electA, if_pos hm]; exact OwS.nil.rd, fun x hx => .inl (by simpa using hx), hr5.keeps, fun h' => (by rw [electA, if_pos hm] at h'; exact absurd h' (by decide))⟩).1
  have hb : decide (memP c e.h) = true := decide_eq_true hm
  have hA : electA c e = grantA c 1000 e.h := if_neg (by simpa using hm)
  refine seg cfg26_ok mixed PanicFree.body 1000 [false] [] h2 (by first | trivial | exact HpRep.nil | assumption) (by kernel_rfl) fun s_ hs_ => ?_
  simp (maxSteps := 10000000) [SX.vc, SX.stop, SX.contS, SX.contB, SX.sxStep, SX.stepPure, SX.stepNew, SX.stepStore, SX.guardIx, SX.evOp, SX.opd, SX.look, SX.putS, SX.gobs, SX.AllP, SX.leave, SX.evNew, SX.evStore, SX.evUn, cfg26, hb]
  refine ⟨by (unfold SX.Ob; first | trivial | omega | ((try simp only [SX.inK]); (try simp [SX.den, SX.IsU8, SX.AllP, *]); (try omega))), ?_⟩
  intro a3 w3 hr3 _
  have q3 := hpLt hr3.all
  simp at q3
  have z3 : w.heap.size ≤ w3.heap.size := hr3.keeps.size
  refine post_call 43 [.ptr 0 D 0, .v (.int .i64 1000)] hr3 (wanted_none rfl) rfl (callable 43 Try.func43) (grant_ok w3 D c e vL vS vW 1000 hr3.all.1.1 (h.L.rd.keep hr3.keeps (nP1 h.nL)) h.nL (by omega) (by omega) t2) ?_
  rintro e4 w4 ⟨rfl, hk4, hg4⟩
  refine ⟨_, rfl, ?_⟩
  by_cases hE0 : grantE c.T 1000 e.h c.ttl = 0
  · obtain ⟨v1, hv1, hD4⟩ := hg4 hE0
    have h4 := hr3.retK hk4 (fun z hz => .inr hz) 8 (.ag (ansC (grantA c 1000 e.h) (.slice none 0 0))) rfl _ (HpAll.wr hr3.all hk4 hD4) (by simp) rfl
    refine seg cfg26_ok mixed PanicFree.body 1000 [] [] h4.rebase (by first | trivial | exact HpRep.nil | assumption) (by kernel_rfl) fun s_ hs_ => ?_
    simp (maxSteps := 10000000) [SX.vc, SX.stop, SX.contS, SX.sxStep, SX.stepPure, SX.stepNew, SX.stepStore, SX.guardIx, SX.evOp, SX.opd, SX.look, SX.putS, SX.AllP, SX.leave, SX.lookT, SX.evNew, SX.evStore, SX.spliceL, SX.SV.cells, SX.NotAgg, cfg26, ansC]
    refine ⟨by (unfold SX.Ob; first | trivial | omega | ((try simp only [SX.inK]); (try simp [SX.den, SX.IsU8, SX.AllP, *]); (try omega))), ?_⟩
    intro a5 w5 hr5' _
    have hr5 := h4.unbase hr5'
    have hv5 := hv1.keep hr5'.keeps (by simp [mutB]; omega)
    exact post_retn (endC1 hr5 rfl rfl rfl tok43 rfl ⟨.slice none 0 0, [D], by rw [hA]; rfl, by rw [hA, grantA_L]; exact OwS.nil.rd, fun x hx => .inl (by simpa using hx), hr5.keeps, fun _ => ⟨v1, vS, vW, hr5.all.1.1, hv5.mono fun x _ hx => .inr (by omega), (h.S.keep hr5.keeps (nP1 h.nS)).mono fun x _ hx => .inl hx, (h.W.rd.keep hr5.keeps (nP1 h.nW)).mono fun x _ hx => .inl hx⟩⟩).1
  · have hDl : D < w4.heap.size := Nat.lt_of_lt_of_le q3.1 hk4.size
    have h4 := hr3.retK hk4 (fun z hz => .inr hz) 8 (.ag (ansC (grantA c 1000 e.h) (.slice none 0 0))) rfl _ (HpAll.wr (o' := .any) hr3.all hk4 hDl) (by simp) rfl
    refine seg cfg26_ok mixed PanicFree.body 1000 [] [] h4 (by first | trivial | exact HpRep.nil | assumption) (by kernel_rfl) fun s_ hs_ => ?_
    simp (maxSteps := 10000000) [SX.vc, SX.stop, SX.contS, SX.sxStep, SX.stepPure, SX.stepNew, SX.stepStore, SX.guardIx, SX.evOp, SX.opd, SX.look, SX.putS, SX.AllP, SX.leave, SX.lookT, SX.evNew, SX.evStore, SX.spliceL, SX.SV.cells, SX.NotAgg, cfg26, ansC]
    refine ⟨by (unfold SX.Ob; first | trivial | omega | ((try simp only [SX.inK]); (try simp [SX.den, SX.IsU8, SX.AllP, *]); (try omega))), ?_⟩
    intro a5 w5 hr5 _
    exact post_retn (endC1 hr5 rfl rfl rfl tok43 rfl ⟨.slice none 0 0, [D], by rw [hA]; rfl, by rw [hA, grantA_L]; exact OwS.nil.rd, fun x hx => .inl (by simpa using hx), hr5.keeps, fun h' => absurd (grantA_er.symm.trans ((congrArg Ans.er hA).symm.trans h')) hE0⟩).1
end Go.Proofs.C8
namespace Go.Proofs.C8
open Go Go.Proofs Go.SX Go.RowKit Go.Proofs.L6
set_option maxRecDepth 100000 in
set_option maxHeartbeats 32000000 in
theorem renew_ok {QL QS QW : Nat → Prop} (w : World) (D : Nat) (c : Co) (e : Evt) (vL vS vW : Value) (h : Dsk QL QS QW D w c e vL vS vW) (hs : Small c) :
    Calls Try.prog 28 (denL [.ptr 0 D 0]).toArray w (OpR QL QS QW D w e (renewA c e) (renewC c e)) := by
  have n1 := hs.n1
  have l2 := hs.l2
  have t2 := hs.t2
  have hE : HpAll ⟨w, w.heap.size, [D]⟩ w [(D, true, .cells (deskC c e vL vS vW) 74)] := ⟨⟨h.rep, fun _ => .inr (by simp), by simp⟩, trivial⟩
  refine enter (F := ⟨w, w.heap.size, [D]⟩) Try.func28 rfl [.ptr 0 D 0] _ (by simp [Try.f28]) hE (KeepsTo.refl w _) fun a hr => ?_
  refine seg cfg28_ok mixed PanicFree.body 1000 [] [] hr (by first | trivial | exact HpRep.nil | assumption) (by kernel_rfl) fun sA hsA => ?_
  simp (maxSteps := 10000000) [SX.vc, SX.stop, SX.contS, SX.contR, SX.contD, SX.sxStep, SX.stepPure, SX.stepNew, SX.guardIx, SX.evOp, SX.opd, SX.look, SX.putS, SX.gobs, SX.AllP, SX.leave, SX.lookT, SX.lookN, SX.evLoad, SX.shapeUp, SX.evFieldAddr, SX.cellsV, SX.evNew, SX.evNil, SX.env0, SX.TD.isAgg, SX.thaw, SX.fork, Go.Value.cells, cfg28, Try.f28, deskC, coC, evC]
  refine ⟨by (unfold SX.Ob; first | trivial | omega | ((try simp only [SX.inK]); (try simp [SX.den, SX.IsU8, SX.AllP, *]); (try omega))), ?_⟩
  intro a1 w1 hr1 ht1
  have q1 := hpLt hr1.all
  simp at q1
  have z1 : w.heap.size ≤ w1.heap.size := hr1.keeps.size
  refine post_both ?_ ?_
  · refine post_callD 61 [.ag [.v (.int .i64 c.T.last), .v (.int .i64 c.T.now), .v vL], .v (.int .i64 e.key), .v (.int .i64 e.h), .v (.int .i64 e.e), .v (.int .i64 c.ttl)] hr1 rfl (by first | exact wanted_none rfl | exact wanted_zero (hr1.env.same rfl rfl rfl rfl) rfl (by simp) | exact wanted_zero (hr1.env.same rfl rfl rfl rfl) rfl (by simp [*])) rfl (callable 61 Try.func61) (Renew_ok w1 vL c.T e.key e.h e.e c.ttl (h.L.rd.keep hr1.keeps (nP1 h.nL)) (by omega) t2) ?_
    rintro e2 w2 ⟨v2, rfl, hO2, hb2⟩
    have ht2 := HpRep_below ht1 hb2
    refine ⟨_, rfl, ht2, ?_⟩
    have hr2 := hr1.ret hb2 31 (.tu [.ag (tabC (renT c.T e.key e.h e.e c.ttl) v2), .v (.int .i64 (renE c.T e.key e.h e.e c.ttl))]) rfl _ (hr1.all.below hb2) (by simp) rfl
    obtain ⟨ad2, cp2, rfl⟩ := hO2.slice
    have q2 := hpLt hr2.all
    simp at q2
    have z2 : w1.heap.size ≤ w2.heap.size := hb2.size
    have hP2 := hO2.mono (P' := fun x => w1.heap.size ≤ x ∧ x < w2.heap.size) fun x h1 h2 => ⟨h2, h1⟩
    by_cases hE0 : (renE c.T e.key e.h e.e c.ttl) = 0
    · refine seg cfg28_ok mixed PanicFree.body 1000 [false] [] hr2.rebase (by first | trivial | exact HpRep.nil | assumption) (by kernel_rfl) fun sX hsX => ?_
      simp (maxSteps := 10000000) [SX.vc, SX.stop, SX.contS, SX.contB, SX.contD, SX.sxStep, SX.stepPure, SX.stepNew, SX.stepStore, SX.stepKeep, SX.guardIx, SX.evOp, SX.opd, SX.opds, SX.look, SX.putS, SX.gobs, SX.AllP, SX.leave, SX.lookT, SX.evBin, SX.evInt, SX.evLoad, SX.shapeUp, SX.evFieldAddr, SX.evFill, SX.evBuild, SX.szs, SX.cellsV, SX.evNew, SX.evStore, SX.spliceL, SX.SV.cells, SX.evNil, SX.TD.isAgg, SX.tails, SX.NotAgg, SX.frz, SX.Froz, SX.frzStep, Go.Value.cells, cfg28, tabC, hE0]
      refine ⟨by (unfold SX.Ob; first | trivial | omega | ((try simp only [SX.inK]); (try simp [SX.den, SX.IsU8, SX.AllP, *]); (try omega))), ?_⟩
      intro a20 w20 hr20' _
      have hr20 := hr2.unbase hr20'
      have hO20 := hP2.keep hr20'.keeps (by simp [mutB]; omega)
      exact post_retn (endC1 hr20 rfl rfl rfl tok43 rfl ⟨.slice none 0 0, [D], by rw [renewA, hE0]; rfl, OwS.nil.rd, fun x hx => .inl (by simpa using hx), hr20.keeps, fun _ => ⟨_, vS, vW, by simpa [deskC, coC, evC, renewC] using hr20.all.1.1, hO20.mono fun x _ hx => .inr (by omega), (h.S.keep hr20.keeps (nP1 h.nS)).mono fun x _ hx => .inl hx, (h.W.rd.keep hr20.keeps (nP1 h.nW)).mono fun x _ hx => .inl hx⟩⟩).1
    · refine seg cfg28_ok mixed PanicFree.body 1000 [true] [] hr2.rebase (by first | trivial | exact HpRep.nil | assumption) (by kernel_rfl) fun sX hsX => ?_
      simp (maxSteps := 10000000) [SX.vc, SX.stop, SX.contS, SX.contB, SX.contD, SX.sxStep, SX.stepPure, SX.stepNew, SX.stepStore, SX.stepKeep, SX.guardIx, SX.evOp, SX.opd, SX.opds, SX.look, SX.putS, SX.gobs, SX.AllP, SX.leave, SX.lookT, SX.evBin, SX.evInt, SX.evLoad, SX.shapeUp, SX.evFieldAddr, SX.evFill, SX.evBuild, SX.szs, SX.cellsV, SX.evNew, SX.evStore, SX.spliceL, SX.SV.cells, SX.evNil, SX.TD.isAgg, SX.tails, SX.NotAgg, SX.frz, SX.Froz, SX.frzStep, Go.Value.cells, cfg28, tabC, hE0]
      refine ⟨by (unfold SX.Ob; first | trivial | omega | ((try simp only [SX.inK]); (try simp [SX.den, SX.IsU8, SX.AllP, *]); (try omega))), ?_⟩
      intro a20 w20 hr20' _
      have hr20 := hr2.unbase hr20'
      refine post_call 30 [.v (.int .i64 (renE c.T e.key e.h e.e c.ttl))] hr20 (by first | exact wanted_none rfl | exact wanted_zero (hr20.env.same rfl rfl rfl rfl) rfl (by simp) | exact wanted_zero (hr20.env.same rfl rfl rfl rfl) rfl (by simp [*])) rfl (callable 30 Try.func30) (fails_ok w20 _) ?_
      rintro e21 w21 ⟨rfl, hb21⟩
      refine ⟨_, rfl, ?_⟩
      have h21 := hr20.ret hb21 37 (.ag (ansC (noA (renE c.T e.key e.h e.e c.ttl)) (.slice none 0 0))) rfl _ (hr20.all.below hb21) (by simp) rfl
      refine seg cfg28_ok mixed PanicFree.body 1000 [] [] h21 (by first | trivial | exact HpRep.nil | assumption) (by kernel_rfl) fun s_ hs_ => ?_
      simp (maxSteps := 10000000) [SX.vc, SX.stop, SX.contS, SX.sxStep, SX.stepPure, SX.stepNew, SX.stepStore, SX.guardIx, SX.evOp, SX.opd, SX.look, SX.putS, SX.AllP, SX.leave, SX.lookT, SX.evNew, SX.evStore, SX.spliceL, SX.SV.cells, SX.NotAgg, cfg28, ansC, noA]
      refine ⟨by (unfold SX.Ob; first | trivial | omega | ((try simp only [SX.inK]); (try simp [SX.den, SX.IsU8, SX.AllP, *]); (try omega))), ?_⟩
      intro a22 w22 hr22 _
      exact post_retn (endC1 hr22 rfl rfl rfl tok43 rfl ⟨.slice none 0 0, [D], rfl, OwS.nil.rd, fun x hx => .inl (by simpa using hx), hr22.keeps, fun h' => absurd h' hE0⟩).1
  · refine seg cfg28_ok mixed PanicFree.body 1000 [] [] hr1 (by first | trivial | exact HpRep.nil | assumption) (by kernel_rfl) fun sT hsT => ?_
    simp (maxSteps := 10000000) [SX.vc, SX.stop, SX.contS, SX.contD, SX.stepPure, SX.stepNew, SX.stepKeep, SX.guardIx, SX.evOp, SX.putS, SX.AllP, SX.lookT, SX.cellsV, SX.evNew, Go.Value.cells, cfg28]
    refine ⟨by (unfold SX.Ob; first | trivial | omega | ((try simp only [SX.inK]); (try simp [SX.den, SX.IsU8, SX.AllP, *]); (try omega))), ?_⟩
    intro a3 w3 hr3 ht3
    have q3 := hpLt hr3.all
    simp at q3
    have z3 : w1.heap.size ≤ w3.heap.size := by omega
    refine post_callD 61 [.ag [.v (.int .i64 c.T.last), .v (.int .i64 c.T.now), .v vL], .v (.int .i64 e.key), .v (.int .i64 e.h), .v (.int .i64 e.e), .v (.int .i64 c.ttl)] hr3 rfl (by first | exact wanted_none rfl | exact wanted_zero (hr3.env.same rfl rfl rfl rfl) rfl (by simp) | exact wanted_zero (hr3.env.same rfl rfl rfl rfl) rfl (by simp [*])) rfl (callable 61 Try.func61) (Renew_ok w3 vL c.T e.key e.h e.e c.ttl (h.L.rd.keep hr3.keeps (nP1 h.nL)) (by omega) t2) ?_
    rintro e4 w4 ⟨v4, rfl, hO4, hb4⟩
    have ht4 := HpRep_below ht3 hb4
    refine ⟨_, rfl, ht4, ?_⟩
    have hr4 := hr3.ret hb4 31 (.tu [.ag (tabC (renT c.T e.key e.h e.e c.ttl) v4), .v (.int .i64 (renE c.T e.key e.h e.e c.ttl))]) rfl _ (hr3.all.below hb4) (by simp) rfl
    obtain ⟨ad4, cp4, rfl⟩ := hO4.slice
    have q4 := hpLt hr4.all
    simp at q4
    have z4 : w3.heap.size ≤ w4.heap.size := hb4.size
    have hP4 := hO4.mono (P' := fun x => w3.heap.size ≤ x ∧ x < w4.heap.size) fun x h1 h2 => ⟨h2, h1⟩
    by_cases hE0 : (renE c.T e.key e.h e.e c.ttl) = 0
    · refine seg cfg28_ok mixed PanicFree.body 1000 [false] [] hr4.rebase (by first | trivial | exact HpRep.nil | assumption) (by kernel_rfl) fun sX hsX => ?_
      simp (maxSteps := 10000000) [SX.vc, SX.stop, SX.contS, SX.contB, SX.contD, SX.sxStep, SX.stepPure, SX.stepNew, SX.stepStore, SX.stepKeep, SX.guardIx, SX.evOp, SX.opd, SX.opds, SX.look, SX.putS, SX.gobs, SX.AllP, SX.leave, SX.lookT, SX.evBin, SX.evInt, SX.evLoad, SX.shapeUp, SX.evFieldAddr, SX.evFill, SX.evBuild, SX.szs, SX.cellsV, SX.evNew, SX.evStore, SX.spliceL, SX.SV.cells, SX.evNil, SX.TD.isAgg, SX.tails, SX.NotAgg, SX.frz, SX.Froz, SX.frzStep, Go.Value.cells, cfg28, tabC, hE0]
      refine ⟨by (unfold SX.Ob; first | trivial | omega | ((try simp only [SX.inK]); (try simp [SX.den, SX.IsU8, SX.AllP, *]); (try omega))), ?_⟩
      intro a20 w20 hr20' _
      have hr20 := hr4.unbase hr20'
      have hO20 := hP4.keep hr20'.keeps (by simp [mutB]; omega)
      exact post_retn (endC1 hr20 rfl rfl rfl tok43 rfl ⟨.slice none 0 0, [D], by rw [renewA, hE0]; rfl, OwS.nil.rd, fun x hx => .inl (by simpa using hx), hr20.keeps, fun _ => ⟨_, vS, vW, by simpa [deskC, coC, evC, renewC] using hr20.all.1.1, hO20.mono fun x _ hx => .inr (by omega), (h.S.keep hr20.keeps (nP1 h.nS)).mono fun x _ hx => .inl hx, (h.W.rd.keep hr20.keeps (nP1 h.nW)).mono fun x _ hx => .inl hx⟩⟩).1
    · refine seg cfg28_ok mixed PanicFree.body 1000 [true] [] hr4.rebase (by first | trivial | exact HpRep.nil | assumption) (by kernel_rfl) fun sX hsX => ?_
      simp (maxSteps := 10000000) [SX.vc, SX.stop, SX.contS, SX.contB, SX.contD, SX.sxStep, SX.stepPure, SX.stepNew, SX.stepStore, SX.stepKeep, SX.guardIx, SX.evOp, SX.opd, SX.opds, SX.look, SX.putS, SX.gobs, SX.AllP, SX.leave, SX.lookT, SX.evBin, SX.evInt, SX.evLoad, SX.shapeUp, SX.evFieldAddr, SX.evFill, SX.evBuild, SX.szs, SX.cellsV, SX.evNew, SX.evStore, SX.spliceL, SX.SV.cells, SX.evNil, SX.TD.isAgg, SX.tails, SX.NotAgg, SX.frz, SX.Froz, SX.frzStep, Go.Value.cells, cfg28, tabC, hE0]
      refine ⟨by (unfold SX.Ob; first | trivial | omega | ((try simp only [SX.inK]); (try simp [SX.den, SX.IsU8, SX.AllP, *]); (try omega))), ?_⟩
      intro a20 w20 hr20' _
      have hr20 := hr4.unbase hr20'
      refine post_call 30 [.v (.int .i64 (renE c.T e.key e.h e.e c.ttl))] hr20 (by first | exact wanted_none rfl | exact wanted_zero (hr20.env.same rfl rfl rfl rfl) rfl (by simp) | exact wanted_zero (hr20.env.same rfl rfl rfl rfl) rfl (by simp [*])) rfl (callable 30 Try.func30) (fails_ok w20 _) ?_
      rintro e21 w21 ⟨rfl, hb21⟩
      refine ⟨_, rfl, ?_⟩
      have h21 := hr20.ret hb21 37 (.ag (ansC (noA (renE c.T e.key e.h e.e c.ttl)) (.slice none 0 0))) rfl _ (hr20.all.below hb21) (by simp) rfl
      refine seg cfg28_ok mixed PanicFree.body 1000 [] [] h21 (by first | trivial | exact HpRep.nil | assumption) (by kernel_rfl) fun s_ hs_ => ?_
      simp (maxSteps := 10000000) [SX.vc, SX.stop, SX.contS, SX.sxStep, SX.stepPure, SX.stepNew, SX.stepStore, SX.guardIx, SX.evOp, SX.opd, SX.look, SX.putS, SX.AllP, SX.leave, SX.lookT, SX.evNew, SX.evStore, SX.spliceL, SX.SV.cells, SX.NotAgg, cfg28, ansC, noA]
      refine ⟨by (unfold SX.Ob; first | trivial | omega | ((try simp only [SX.inK]); (try simp [SX.den, SX.IsU8, SX.AllP, *]); (try omega))), ?_⟩
      intro a22 w22 hr22 _
      exact post_retn (endC1 hr22 rfl rfl rfl tok43 rfl ⟨.slice none 0 0, [D], rfl, OwS.nil.rd, fun x hx => .inl (by simpa using hx), hr22.keeps, fun h' => absurd h' hE0⟩).1
end Go.Proofs.C8
