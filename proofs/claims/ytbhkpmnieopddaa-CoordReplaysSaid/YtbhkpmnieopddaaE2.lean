/- E2: texts of this proof, joined. -/
import Derived.Test.YtbhkpmnieopddaaE1
import Derived.Test.YtbhkpmnieopddaaB2
set_option linter.unusedVariables false
set_option linter.unusedSimpArgs false
set_option linter.unusedSectionVars false
namespace Go.Proofs.C8
open Go Go.Proofs Go.SX Go.RowKit Go.Proofs.L6
abbrev RdP := S7.RdP
abbrev OwP := S7.OwP
abbrev Spn := S7.Spn
structure Co where
  T : Tab
  S : List S7.Spn
  W : List Fen
  ttl : Int
  zn : Int
deriving DecidableEq
def coC (c : Co) (vL vS vW : Value) : List SV := [.v (.int .i64 c.T.last), .v (.int .i64 c.T.now), .v vL, .v vS, .v vW, .v (.int .i64 c.ttl), .v (.int .i64 c.zn)]
structure Evt where
  d : Int
  h : Int
  z : Int
  e : Int
  fr : Int
  to : Int
  now : Int
  key : Int
deriving DecidableEq
def evt0 : Evt := ⟨0, 0, 0, 0, 0, 0, 0, 0⟩
def evC (e : Evt) : List SV := [.v (.int .i64 e.d), .v (.int .i64 e.h), .v (.int .i64 e.z), .v (.int .i64 e.e), .v (.int .i64 e.fr), .v (.int .i64 e.to), .v (.int .i64 e.now), .v (.int .i64 e.key)]
abbrev RdE := RdS evC 8 evt0
structure Ans where
  er : Int
  ep : Int
  L : List Fen
deriving DecidableEq
def ansC (a : Ans) (v : Value) : List SV := [.v (.int .i64 a.er), .v (.int .i64 a.ep), .v v]
def deskC (c : Co) (e : Evt) (vL vS vW : Value) : List SV := coC c vL vS vW ++ evC e
def RdCo (P : Nat → Prop) (w : World) (vL vS vW : Value) (c : Co) : Prop := RdL P w vL c.T.L ∧ RdP P w vS c.S ∧ RdF P w vW c.W
theorem RdCo.below {P : Nat → Prop} {w w' : World} {vL vS vW : Value} {c : Co} (h : RdCo P w vL vS vW c) (hb : Below w.heap.size w w') : RdCo P w' vL vS vW c := ⟨h.1.below hb, h.2.1.below hb, h.2.2.below hb⟩
theorem RdCo.mono {P P' : Nat → Prop} {w : World} {vL vS vW : Value} {c : Co} (h : RdCo P w vL vS vW c) (hp : ∀ x, x < w.heap.size → P x → P' x) : RdCo P' w vL vS vW c := ⟨h.1.mono hp, h.2.1.mono hp, h.2.2.mono hp⟩
def whoH (c : Co) (k : Int) : Int := if HasT c.T k then (holdX c.T k).h else -1
def whoE (c : Co) (k : Int) : Int := if HasT c.T k then (holdX c.T k).e else 0
def ownH (c : Co) (z : Int) : Int := if z < 0 ∨ c.zn ≤ z then -1 else whoH c z
def ownE (c : Co) (z : Int) : Int := if z < 0 ∨ c.zn ≤ z then 0 else whoE c z
def memP (c : Co) (h : Int) : Prop := 0 ≤ h ∧ h < 8 ∧ whoH c (2000 + h) ≠ -1
instance (c : Co) (h : Int) : Decidable (memP c h) := by unfold memP; infer_instance
set_option maxRecDepth 100000 in
set_option maxHeartbeats 8000000 in
theorem who_ok {P : Nat → Prop} (w : World) (c : Co) (vL vS vW : Value) (key : Int) (hL : RdL P w vL c.T.L) (hn : c.T.L.length ≤ 100000) : Calls Try.prog 31 (denL [.ag (coC c vL vS vW), .v (.int .i64 key)]).toArray w (Ret w (.tu [.v (.int .i64 (whoH c key)), .v (.int .i64 (whoE c key))])) := by
  refine enter (F := frame0 w) Try.func31 rfl [.ag (coC c vL vS vW), .v (.int .i64 key)] [] (by simp [Try.f31]) trivial (keeps0 w) fun a hr => ?_
  refine seg cfg31_ok mixed PanicFree.body 1000 [] [] hr (by first | trivial | exact HpRep.nil | assumption) (by kernel_rfl) fun sA hsA => ?_
  simp (maxSteps := 10000000) [SX.vc, SX.stop, SX.contS, SX.sxStep, SX.stepPure, SX.stepNew, SX.stepStore, SX.guardIx, SX.evOp, SX.opd, SX.look, SX.putS, SX.gobs, SX.AllP, SX.leave, SX.lookT, SX.evLoad, SX.shapeUp, SX.evFieldAddr, SX.evNew, SX.evStore, SX.SV.cells, SX.env0, SX.TD.isAgg, cfg31, Try.f31, coC]
  refine ⟨by (unfold SX.Ob; first | trivial | omega | ((try simp only [SX.inK]); (try simp [SX.den, SX.IsU8, SX.AllP, *]); (try omega))), ?_⟩
  intro a1 w1 hr1 _
  refine post_call 62 [.ag [.v (.int .i64 c.T.last), .v (.int .i64 c.T.now), .v vL], .v (.int .i64 key)] hr1 (by first | exact wanted_none rfl | exact wanted_zero (hr1.env.same rfl rfl rfl rfl) rfl (by simp) | exact wanted_zero (hr1.env.same rfl rfl rfl rfl) rfl (by simp [*])) rfl (callable 62 Try.func62) (Holder_ok w1 vL c.T key (hL.below hr1.keeps.toBelow) hn) ?_
  rintro e2 w2 ⟨rfl, hb2⟩
  refine ⟨_, rfl, ?_⟩
  have h2 := hr1.ret hb2 12 (.tu [.ag (lseC (holdX c.T key)), .v (.bool (decide (HasT c.T key)))]) rfl _ (hr1.all.below hb2) (by simp) rfl
  by_cases hH : HasT c.T key
  · have hd : decide (HasT c.T key) = true := decide_eq_true hH
    refine seg cfg31_ok mixed PanicFree.body 1000 [false] [] h2 (by first | trivial | exact HpRep.nil | assumption) (by kernel_rfl) fun s_ hs_ => ?_
    simp (maxSteps := 10000000) [SX.vc, SX.stop, SX.contS, SX.contB, SX.contR, SX.contD, SX.sxStep, SX.stepPure, SX.stepNew, SX.stepStore, SX.guardIx, SX.evOp, SX.opd, SX.look, SX.putS, SX.gobs, SX.AllP, SX.leave, SX.lookT, SX.lookN, SX.evLoad, SX.shapeUp, SX.evFieldAddr, SX.cellsV, SX.evNew, SX.evStore, SX.spliceL, SX.SV.cells, SX.evUn, SX.TD.isAgg, SX.NotAgg, SX.thaw, Go.Value.cells, cfg31, hd, lseC]
    refine ⟨by (unfold SX.Ob; first | trivial | omega | ((try simp only [SX.inK]); (try simp [SX.den, SX.IsU8, SX.AllP, *]); (try omega))), ?_⟩
    intro a3 w3 hr3 _
    exact post_retn (end2 hr3 rfl rfl rfl ⟨by simp [den, denL, whoH, whoE, hH], hr3.keeps.toBelow⟩).1
  · have hd : decide (HasT c.T key) = false := decide_eq_false hH
    refine seg cfg31_ok mixed PanicFree.body 1000 [true] [] h2 (by first | trivial | exact HpRep.nil | assumption) (by kernel_rfl) fun s_ hs_ => ?_
    simp (maxSteps := 10000000) [SX.vc, SX.stop, SX.contS, SX.contB, SX.contR, SX.contD, SX.sxStep, SX.stepPure, SX.stepNew, SX.stepStore, SX.guardIx, SX.evOp, SX.opd, SX.look, SX.putS, SX.gobs, SX.AllP, SX.leave, SX.lookT, SX.lookN, SX.evLoad, SX.shapeUp, SX.evFieldAddr, SX.cellsV, SX.evNew, SX.evStore, SX.spliceL, SX.SV.cells, SX.evUn, SX.TD.isAgg, SX.NotAgg, SX.thaw, Go.Value.cells, cfg31, hd, lseC]
    refine ⟨by (unfold SX.Ob; first | trivial | omega | ((try simp only [SX.inK]); (try simp [SX.den, SX.IsU8, SX.AllP, *]); (try omega))), ?_⟩
    intro a3 w3 hr3 _
    exact post_retn (end2 hr3 rfl rfl rfl ⟨by simp [den, denL, whoH, whoE, hH], hr3.keeps.toBelow⟩).1
set_option maxRecDepth 100000 in
set_option maxHeartbeats 8000000 in
theorem owner_ok {P : Nat → Prop} (w : World) (c : Co) (vL vS vW : Value) (z : Int) (hL : RdL P w vL c.T.L) (hn : c.T.L.length ≤ 100000) : Calls Try.prog 14 (denL [.ag (coC c vL vS vW), .v (.int .i64 z)]).toArray w (Ret w (.tu [.v (.int .i64 (ownH c z)), .v (.int .i64 (ownE c z))])) := by
  refine enter (F := frame0 w) Try.func14 rfl [.ag (coC c vL vS vW), .v (.int .i64 z)] [] (by simp [Try.f14]) trivial (keeps0 w) fun a hr => ?_
  by_cases h1 : z < 0
  · refine seg cfg14_ok mixed PanicFree.body 1000 [true] [(8, true)] hr (by first | trivial | exact HpRep.nil | assumption) (by kernel_rfl) fun s_ hs_ => ?_
    simp (maxSteps := 10000000) [SX.vc, SX.stop, SX.contS, SX.contB, SX.sxStep, SX.stepPure, SX.stepNew, SX.guardIx, SX.evOp, SX.opd, SX.look, SX.putS, SX.gobs, SX.AllP, SX.leave, SX.lookB, SX.evBin, SX.evInt, SX.evNew, SX.SV.cells, SX.evPick, SX.cnd, SX.env0, Go.undef, cfg14, Try.f14, coC, h1]
    refine ⟨by (unfold SX.Ob; first | trivial | omega | ((try simp only [SX.inK]); (try simp [SX.den, SX.IsU8, SX.AllP, *]); (try omega))), ?_⟩
    intro a1 w1 hr1 _
    exact post_retn (end2 hr1 rfl rfl rfl ⟨by simp [den, denL, ownH, ownE, h1], hr1.keeps.toBelow⟩).1
  by_cases h2 : c.zn ≤ z
  · refine seg cfg14_ok mixed PanicFree.body 1000 [true] [(8, false)] hr (by first | trivial | exact HpRep.nil | assumption) (by kernel_rfl) fun s_ hs_ => ?_
    simp (maxSteps := 10000000) [SX.vc, SX.stop, SX.contS, SX.contB, SX.sxStep, SX.stepPure, SX.stepNew, SX.guardIx, SX.evOp, SX.opd, SX.look, SX.putS, SX.gobs, SX.AllP, SX.leave, SX.lookB, SX.lookT, SX.evBin, SX.evInt, SX.evLoad, SX.shapeUp, SX.evFieldAddr, SX.evNew, SX.SV.cells, SX.evPick, SX.cnd, SX.env0, SX.TD.isAgg, cfg14, Try.f14, coC, h1, h2]
    refine ⟨by (unfold SX.Ob; first | trivial | omega | ((try simp only [SX.inK]); (try simp [SX.den, SX.IsU8, SX.AllP, *]); (try omega))), ?_⟩
    intro a1 w1 hr1 _
    exact post_retn (end2 hr1 rfl rfl rfl ⟨by simp [den, denL, ownH, ownE, h2], hr1.keeps.toBelow⟩).1
  have h3 : ¬ (z < 0 ∨ c.zn ≤ z) := by omega
  refine seg cfg14_ok mixed PanicFree.body 1000 [false] [(8, false)] hr (by first | trivial | exact HpRep.nil | assumption) (by kernel_rfl) fun s_ hs_ => ?_
  simp (maxSteps := 10000000) [SX.vc, SX.stop, SX.contS, SX.contB, SX.sxStep, SX.stepPure, SX.stepNew, SX.stepStore, SX.guardIx, SX.evOp, SX.opd, SX.look, SX.putS, SX.gobs, SX.AllP, SX.leave, SX.lookB, SX.lookT, SX.evBin, SX.evInt, SX.evLoad, SX.shapeUp, SX.evFieldAddr, SX.evNew, SX.evStore, SX.SV.cells, SX.evPick, SX.cnd, SX.env0, SX.TD.isAgg, cfg14, Try.f14, coC, h1, h2]
  refine ⟨by (unfold SX.Ob; first | trivial | omega | ((try simp only [SX.inK]); (try simp [SX.den, SX.IsU8, SX.AllP, *]); (try omega))), ?_⟩
  intro a1 w1 hr1 _
  refine post_call 31 [.ag (coC c vL vS vW), .v (.int .i64 z)] hr1 (by first | exact wanted_none rfl | exact wanted_zero (hr1.env.same rfl rfl rfl rfl) rfl (by simp) | exact wanted_zero (hr1.env.same rfl rfl rfl rfl) rfl (by simp [*])) rfl (callable 31 Try.func31) (who_ok w1 c vL vS vW z (hL.below hr1.keeps.toBelow) hn) ?_
  rintro e2 w2 ⟨rfl, hb2⟩
  refine ⟨_, rfl, ?_⟩
  have h4 := hr1.ret hb2 16 (.tu [.v (.int .i64 (whoH c z)), .v (.int .i64 (whoE c z))]) rfl _ (hr1.all.below hb2) (by simp) rfl
  refine seg cfg14_ok mixed PanicFree.body 1000 [] [] h4 (by first | trivial | exact HpRep.nil | assumption) (by kernel_rfl) fun s_ hs_ => ?_
  simp (maxSteps := 10000000) [SX.vc, SX.stop, SX.contS, SX.sxStep, SX.stepPure, SX.guardIx, SX.evOp, SX.opd, SX.look, SX.putS, SX.gobs, SX.AllP, SX.leave, cfg14]
  refine ⟨by (unfold SX.Ob; first | trivial | omega | ((try simp only [SX.inK]); (try simp [SX.den, SX.IsU8, SX.AllP, *]); (try omega))), ?_⟩
  intro a3 w3 hr3 _
  exact post_retn (end2 hr3 rfl rfl rfl ⟨by simp only [ownH, ownE, if_neg h3]; rfl, hr3.keeps.toBelow⟩).1
set_option maxRecDepth 100000 in
set_option maxHeartbeats 8000000 in
theorem member_ok {P : Nat → Prop} (w : World) (c : Co) (vL vS vW : Value) (h : Int) (hL : RdL P w vL c.T.L) (hn : c.T.L.length ≤ 100000) : Calls Try.prog 13 (denL [.ag (coC c vL vS vW), .v (.int .i64 h)]).toArray w (Ret w (.v (.bool (decide (memP c h))))) := by
  refine enter (F := frame0 w) Try.func13 rfl [.ag (coC c vL vS vW), .v (.int .i64 h)] [] (by simp [Try.f13]) trivial (keeps0 w) fun a hr => ?_
  by_cases h1 : h < 0
  · refine seg cfg13_ok mixed PanicFree.body 1000 [true] [(9, true)] hr (by first | trivial | exact HpRep.nil | assumption) (by kernel_rfl) fun s_ hs_ => ?_
    simp (maxSteps := 10000000) [SX.vc, SX.stop, SX.contS, SX.contB, SX.sxStep, SX.stepPure, SX.stepNew, SX.guardIx, SX.evOp, SX.opd, SX.look, SX.putS, SX.gobs, SX.AllP, SX.leave, SX.lookB, SX.evBin, SX.evInt, SX.evNew, SX.SV.cells, SX.evPick, SX.cnd, SX.env0, Go.undef, cfg13, Try.f13, coC, h1]
    refine ⟨by (unfold SX.Ob; first | trivial | omega | ((try simp only [SX.inK]); (try simp [SX.den, SX.IsU8, SX.AllP, *]); (try omega))), ?_⟩
    intro a1 w1 hr1 _
    have hno : ¬ memP c h := fun x => by have := x.1; omega
    exact post_retn (end1 hr1 rfl rfl ⟨by simp [den, hno], hr1.keeps.toBelow⟩).1
  by_cases h2 : 8 ≤ h
  · refine seg cfg13_ok mixed PanicFree.body 1000 [true] [(9, false)] hr (by first | trivial | exact HpRep.nil | assumption) (by kernel_rfl) fun s_ hs_ => ?_
    simp (maxSteps := 10000000) [SX.vc, SX.stop, SX.contS, SX.contB, SX.sxStep, SX.stepPure, SX.stepNew, SX.guardIx, SX.evOp, SX.opd, SX.look, SX.putS, SX.gobs, SX.AllP, SX.leave, SX.lookB, SX.evBin, SX.evInt, SX.evNew, SX.SV.cells, SX.evPick, SX.cnd, SX.env0, cfg13, Try.f13, coC, h1, h2]
    refine ⟨by (unfold SX.Ob; first | trivial | omega | ((try simp only [SX.inK]); (try simp [SX.den, SX.IsU8, SX.AllP, *]); (try omega))), ?_⟩
    intro a1 w1 hr1 _
    have hno : ¬ memP c h := fun x => by have := x.2.1; omega
    exact post_retn (end1 hr1 rfl rfl ⟨by simp [den, hno], hr1.keeps.toBelow⟩).1
  refine seg cfg13_ok mixed PanicFree.body 1000 [false] [(9, false)] hr (by first | trivial | exact HpRep.nil | assumption) (by kernel_rfl) fun s_ hs_ => ?_
  simp (maxSteps := 10000000) [SX.vc, SX.stop, SX.contS, SX.contB, SX.sxStep, SX.stepPure, SX.stepNew, SX.stepStore, SX.guardIx, SX.evOp, SX.opd, SX.look, SX.putS, SX.gobs, SX.AllP, SX.leave, SX.lookB, SX.lookT, SX.evBin, SX.evInt, SX.arith, SX.evLoad, SX.shapeUp, SX.evNew, SX.evStore, SX.SV.cells, SX.evPick, SX.cnd, SX.env0, SX.TD.isAgg, cfg13, Try.f13, coC, h1, h2]
  refine ⟨by (unfold SX.Ob; first | trivial | omega | ((try simp only [SX.inK]); (try simp [SX.den, SX.IsU8, SX.AllP, *]); (try omega))), ?_⟩
  intro a1 w1 hr1 _
  refine post_call 31 [.ag (coC c vL vS vW), .v (.int .i64 (2000 + h))] hr1 (by first | exact wanted_none rfl | exact wanted_zero (hr1.env.same rfl rfl rfl rfl) rfl (by simp) | exact wanted_zero (hr1.env.same rfl rfl rfl rfl) rfl (by simp [*])) rfl (callable 31 Try.func31) (who_ok w1 c vL vS vW (2000 + h) (hL.below hr1.keeps.toBelow) hn) ?_
  rintro e2 w2 ⟨rfl, hb2⟩
  refine ⟨_, rfl, ?_⟩
  have h4 := hr1.ret hb2 17 (.tu [.v (.int .i64 (whoH c (2000 + h))), .v (.int .i64 (whoE c (2000 + h)))]) rfl _ (hr1.all.below hb2) (by simp) rfl
  refine seg cfg13_ok mixed PanicFree.body 1000 [] [] h4 (by first | trivial | exact HpRep.nil | assumption) (by kernel_rfl) fun s_ hs_ => ?_
  simp (maxSteps := 10000000) [SX.vc, SX.stop, SX.contS, SX.sxStep, SX.stepPure, SX.guardIx, SX.evOp, SX.opd, SX.look, SX.putS, SX.gobs, SX.AllP, SX.leave, SX.evBin, SX.evInt, cfg13]
  refine ⟨by (unfold SX.Ob; first | trivial | omega | ((try simp only [SX.inK]); (try simp [SX.den, SX.IsU8, SX.AllP, *]); (try omega))), ?_⟩
  intro a3 w3 hr3 _
  refine post_retn (end1 hr3 rfl rfl ⟨ret_dec ?_, hr3.keeps.toBelow⟩).1
  simp only [bne_iff_ne, memP]
  exact ⟨fun x => ⟨by omega, by omega, x⟩, fun x => x.2.2⟩
end Go.Proofs.C8
namespace Go.Proofs.C8
open Go Go.Proofs Go.SX Go.RowKit Go.Proofs.L6
def CopR (w : World) (c : Co) (e : Ending) (w' : World) : Prop :=
  ∃ vL vS vW m1 m2, e = .returned (den (.ag (coC c vL vS vW))) ∧ w.heap.size ≤ m1 ∧ m1 ≤ m2 ∧ m2 ≤ w'.heap.size ∧ OwL (fun x => w.heap.size ≤ x ∧ x < m1) w' vL c.T.L ∧ OwP (fun x => m1 ≤ x ∧ x < m2) w' vS c.S ∧ OwF (fun x => m2 ≤ x ∧ x < w'.heap.size) w' vW c.W ∧ Below w.heap.size w w'
set_option maxRecDepth 100000 in
set_option maxHeartbeats 16000000 in
theorem copied_ok {P : Nat → Prop} (w : World) (c : Co) (vL vS vW : Value) (hc : RdCo P w vL vS vW c) (hn1 : c.T.L.length ≤ 100000) (hn2 : 0 < c.S.length) (hn3 : c.S.length ≤ 100000) (hn4 : c.W.length ≤ 100000) : Calls Try.prog 21 (denL [.ag (coC c vL vS vW)]).toArray w (CopR w c) := by
  obtain ⟨hL, hS, hW⟩ := hc
  obtain ⟨aL, cL, rfl⟩ := hL.slice
  obtain ⟨aS, cS, rfl⟩ := hS.slice
  obtain ⟨aW, cW, rfl⟩ := hW.slice
  refine enter (F := frame0 w) Try.func21 rfl [.ag (coC c (.slice aL c.T.L.length cL) (.slice aS c.S.length cS) (.slice aW c.W.length cW))] [] (by simp [Try.f21]) trivial (keeps0 w) fun a hr => ?_
  refine seg cfg21_ok mixed PanicFree.body 1000 [] [] hr (by first | trivial | exact HpRep.nil | assumption) (by kernel_rfl) fun sA hsA => ?_
  simp (maxSteps := 10000000) [SX.vc, SX.stop, SX.contS, SX.contR, SX.contD, SX.sxStep, SX.stepPure, SX.stepNew, SX.stepKeep, SX.guardIx, SX.evOp, SX.opd, SX.look, SX.putS, SX.gobs, SX.AllP, SX.leave, SX.lookT, SX.lookN, SX.evLoad, SX.shapeUp, SX.evFieldAddr, SX.cellsV, SX.evNew, SX.SV.cells, SX.env0, SX.TD.isAgg, SX.thaw, Go.Value.cells, cfg21, Try.f21, coC]
  refine ⟨by (unfold SX.Ob; first | trivial | omega | ((try simp only [SX.inK]); (try simp [SX.den, SX.IsU8, SX.AllP, *]); (try omega))), ?_⟩
  intro a1 w1 hr1 ht1
  have hsA : sA < w1.heap.size := SO.rep_lt hr1.all.1.1
  have hsB : sA + 1 < w1.heap.size := SO.rep_lt hr1.all.2.1.1
  have z1 : w.heap.size ≤ w1.heap.size := hr1.keeps.size
  refine post_callD 40 [.v (.slice aL c.T.L.length cL)] hr1 rfl (by first | exact wanted_none rfl | exact wanted_zero (hr1.env.same rfl rfl rfl rfl) rfl (by simp) | exact wanted_zero (hr1.env.same rfl rfl rfl rfl) rfl (by simp [*])) rfl (callable 40 Try.func40) (L6.clone_all w1 _ c.T.L (hL.below hr1.keeps.toBelow) (by omega)) ?_
  rintro e2 w2 ⟨v2, rfl, hO2, hb2⟩
  have ht2 := HpRep_below ht1 hb2
  refine ⟨_, rfl, ht2, ?_⟩
  have hr2 := hr1.ret hb2 6 (.v v2) rfl _ (hr1.all.below hb2) (by simp) rfl
  obtain ⟨ad2, cp2, rfl⟩ := hO2.slice
  refine seg cfg21_ok mixed PanicFree.body 1000 [] [] hr2.rebase (by first | trivial | exact HpRep.nil | assumption) (by kernel_rfl) fun s_ hs_ => ?_
  simp (maxSteps := 10000000) [SX.vc, SX.stop, SX.contS, SX.contD, SX.sxStep, SX.stepPure, SX.stepNew, SX.stepStore, SX.stepKeep, SX.guardIx, SX.evOp, SX.opd, SX.look, SX.putS, SX.gobs, SX.AllP, SX.leave, SX.lookT, SX.evLoad, SX.shapeUp, SX.evFieldAddr, SX.evNew, SX.evStore, SX.spliceL, SX.SV.cells, SX.TD.isAgg, SX.tails, SX.NotAgg, SX.frz, SX.Froz, SX.frzStep, cfg21]
  refine ⟨by (unfold SX.Ob; first | trivial | omega | ((try simp only [SX.inK]); (try simp [SX.den, SX.IsU8, SX.AllP, *]); (try omega))), ?_⟩
  intro a3 w3 hr3' ht3
  have hr3 := hr2.unbase hr3'
  have hO3 := (hO2.keep hr3'.keeps (by simp [mutB]; omega)).mono (P' := fun x => w1.heap.size ≤ x ∧ x < w3.heap.size) fun x h0 h => ⟨h, h0⟩
  have z2 : w1.heap.size ≤ w2.heap.size := hb2.size
  have z3 : w2.heap.size ≤ w3.heap.size := hr3'.keeps.size
  refine post_callD 41 [.v (.slice aS c.S.length cS)] hr3 rfl (by first | exact wanted_none rfl | exact wanted_zero (hr3.env.same rfl rfl rfl rfl) rfl (by simp) | exact wanted_zero (hr3.env.same rfl rfl rfl rfl) rfl (by simp [*])) rfl (callable 41 Try.func41) (S7.clone_ok w3 _ c.S (hS.below hr3.keeps.toBelow) hn2 (by omega)) ?_
  rintro e4 w4 ⟨v4, rfl, hO4, hb4⟩
  have ht4 := HpRep_below ht3 hb4
  refine ⟨_, rfl, ht4, ?_⟩
  have hr4 := hr3.ret hb4 9 (.v v4) rfl _ (hr3.all.below hb4) (by simp) rfl
  obtain ⟨ad4, cp4, rfl⟩ := hO4.slice
  have hO4' := hO3.below hb4
  refine seg cfg21_ok mixed PanicFree.body 1000 [] [] hr4.rebase (by first | trivial | exact HpRep.nil | assumption) (by kernel_rfl) fun s_ hs_ => ?_
  simp (maxSteps := 10000000) [SX.vc, SX.stop, SX.contS, SX.contD, SX.sxStep, SX.stepPure, SX.stepNew, SX.stepStore, SX.stepKeep, SX.guardIx, SX.evOp, SX.opd, SX.look, SX.putS, SX.gobs, SX.AllP, SX.leave, SX.lookT, SX.evLoad, SX.shapeUp, SX.evFieldAddr, SX.evNew, SX.evStore, SX.spliceL, SX.SV.cells, SX.TD.isAgg, SX.tails, SX.NotAgg, SX.frz, SX.Froz, SX.frzStep, cfg21]
  refine ⟨by (unfold SX.Ob; first | trivial | omega | ((try simp only [SX.inK]); (try simp [SX.den, SX.IsU8, SX.AllP, *]); (try omega))), ?_⟩
  intro a5 w5 hr5' ht5
  have hr5 := hr4.unbase hr5'
  have hO5 := (hO4.keep hr5'.keeps (by simp [mutB]; omega)).mono (P' := fun x => w3.heap.size ≤ x ∧ x < w5.heap.size) fun x h0 h => ⟨h, h0⟩
  have hO5' := hO4'.keep hr5'.keeps (by simp [mutB]; omega)
  have z4 : w3.heap.size ≤ w4.heap.size := hb4.size
  have z5 : w4.heap.size ≤ w5.heap.size := hr5'.keeps.size
  refine post_callD 42 [.v (.slice aW c.W.length cW)] hr5 rfl (by first | exact wanted_none rfl | exact wanted_zero (hr5.env.same rfl rfl rfl rfl) rfl (by simp) | exact wanted_zero (hr5.env.same rfl rfl rfl rfl) rfl (by simp [*])) rfl (callable 42 Try.func42) (C8.clone_all w5 _ c.W (hW.below hr5.keeps.toBelow) (by omega)) ?_
  rintro e6 w6 ⟨v6, rfl, hO6, hb6⟩
  have ht6 := HpRep_below ht5 hb6
  refine ⟨_, rfl, ht6, ?_⟩
  have hr6 := hr5.ret hb6 12 (.v v6) rfl _ (hr5.all.below hb6) (by simp) rfl
  obtain ⟨ad6, cp6, rfl⟩ := hO6.slice
  have hO6' := hO5.below hb6
  have hO6'' := hO5'.below hb6
  refine seg cfg21_ok mixed PanicFree.body 1000 [] [] hr6.rebase (by first | trivial | exact HpRep.nil | assumption) (by kernel_rfl) fun s_ hs_ => ?_
  simp (maxSteps := 10000000) [SX.vc, SX.stop, SX.contS, SX.contD, SX.sxStep, SX.stepPure, SX.stepNew, SX.stepStore, SX.stepKeep, SX.guardIx, SX.evOp, SX.opd, SX.look, SX.putS, SX.gobs, SX.AllP, SX.leave, SX.lookT, SX.evLoad, SX.shapeUp, SX.evFieldAddr, SX.evNew, SX.evStore, SX.spliceL, SX.SV.cells, SX.TD.isAgg, SX.tails, SX.NotAgg, SX.frz, SX.Froz, SX.frzStep, cfg21]
  refine ⟨by (unfold SX.Ob; first | trivial | omega | ((try simp only [SX.inK]); (try simp [SX.den, SX.IsU8, SX.AllP, *]); (try omega))), ?_⟩
  intro a7 w7 hr7' _
  have hr7 := hr6.unbase hr7'
  have hO7 := hO6.keep hr7'.keeps (by simp [mutB]; omega)
  have hO7' := hO6'.keep hr7'.keeps (by simp [mutB]; omega)
  have hO7'' := hO6''.keep hr7'.keeps (by simp [mutB]; omega)
  have z6 : w5.heap.size ≤ w6.heap.size := hb6.size
  have z7 : w6.heap.size ≤ w7.heap.size := hr7'.keeps.size
  refine post_retn (endC1 hr7 rfl rfl rfl tok31 rfl ⟨_, _, _, w3.heap.size, w5.heap.size, rfl, by omega, by omega, by omega, hO7''.mono fun x _ h => by omega, hO7'.mono fun x _ h => by omega, hO7.mono fun x h0 h => by omega, hr7.keeps.toBelow⟩).1
end Go.Proofs.C8
namespace Go.Proofs.C8
open Go Go.Proofs Go.SX Go.RowKit Go.Proofs.L6
theorem tmod_pos {x n : Int} (hn : 0 < n) : 0 ≤ (x.tmod n + n).tmod n ∧ (x.tmod n + n).tmod n < n := by
  have h1 : -n < x.tmod n := by
    rcases Int.le_total 0 x with h | h
    · have := Int.tmod_nonneg n h
      omega
    · have h2 := Int.tmod_nonneg n (show 0 ≤ -x by omega)
      rw [Int.neg_tmod] at h2
      have h3 := Int.tmod_lt_of_pos (-x) hn
      rw [Int.neg_tmod] at h3
      omega
  exact ⟨Int.tmod_nonneg n (by omega), Int.tmod_lt_of_pos _ hn⟩
def co0 (zn bl ttl : Int) : Co := ⟨⟨0, 0, []⟩, [⟨0, bl, -1, 0⟩], [], ttl, zn⟩
def NewG (w : World) (n : Int) (e : Ending) (w' : World) : Prop := ∃ v', e = .returned (den (.tu [.v v', .v (.int .i64 0)])) ∧ RdP (fun x => w.heap.size ≤ x) w' v' [⟨0, n, -1, 0⟩] ∧ Below w.heap.size w w'
theorem New_good (w : World) (n : Int) (h1 : 1 ≤ n) (h2 : n ≤ 1099511627776) : Calls Try.prog 39 (denL [.v (.int .i64 n)]).toArray w (NewG w n) :=
  (S7.New_ok w n).mono fun e w' h => by
    rcases h with ⟨⟨_, _, v', he, hv⟩ | ⟨hn, _⟩, hb⟩
    · exact ⟨v', he, hv, hb⟩
    · omega
def CNewR (w : World) (zn bl ttl : Int) (e : Ending) (w' : World) : Prop :=
  ∃ vS, e = .returned (den (.tu [.ag (coC (co0 zn bl ttl) (.slice none 0 0) vS (.slice none 0 0)), .v (.int .i64 0)])) ∧ RdP (fun x => w.heap.size ≤ x) w' vS [⟨0, bl, -1, 0⟩] ∧ Below w.heap.size w w'
set_option maxRecDepth 100000 in
set_option maxHeartbeats 8000000 in
theorem cnew_ok (w : World) (zn bl ttl : Int) (h1 : 1 ≤ zn) (h2 : zn ≤ 64) (h3 : 1 ≤ bl) (h4 : bl ≤ 1099511627776) (h5 : 1 ≤ ttl) (h6 : ttl ≤ 1073741824) : Calls Try.prog 20 (denL [.v (.int .i64 zn), .v (.int .i64 bl), .v (.int .i64 ttl)]).toArray w (CNewR w zn bl ttl) := by
  refine enter (F := frame0 w) Try.func20 rfl [.v (.int .i64 zn), .v (.int .i64 bl), .v (.int .i64 ttl)] [] (by simp [Try.f20]) trivial (keeps0 w) fun a hr => ?_
  refine seg cfg20_ok mixed PanicFree.body 1000 [] [] hr (by first | trivial | exact HpRep.nil | assumption) (by kernel_rfl) fun sA hsA => ?_
  simp (maxSteps := 10000000) [SX.vc, SX.stop, SX.contS, SX.sxStep, SX.stepPure, SX.stepNew, SX.stepStore, SX.guardIx, SX.evOp, SX.opd, SX.look, SX.putS, SX.gobs, SX.AllP, SX.leave, SX.lookT, SX.cellsV, SX.evNew, SX.evStore, SX.env0, Go.Value.cells, cfg20, Try.f20]
  refine ⟨by (unfold SX.Ob; first | trivial | omega | ((try simp only [SX.inK]); (try simp [SX.den, SX.IsU8, SX.AllP, *]); (try omega))), ?_⟩
  intro a1 w1 hr1 _
  have hsA : sA < w1.heap.size := SO.rep_lt hr1.all.1.1
  refine post_call 39 [.v (.int .i64 bl)] hr1 (by first | exact wanted_none rfl | exact wanted_zero (hr1.env.same rfl rfl rfl rfl) rfl (by simp) | exact wanted_zero (hr1.env.same rfl rfl rfl rfl) rfl (by simp [*])) rfl (callable 39 Try.func39) (New_good w1 bl h3 h4) ?_
  rintro e2 w2 ⟨v2, rfl, hL2, hb2⟩
  refine ⟨_, rfl, ?_⟩
  have h2' := hr1.ret hb2 12 (.tu [.v v2, .v (.int .i64 0)]) rfl _ (hr1.all.below hb2) (by simp) rfl
  obtain ⟨ad, cp, rfl⟩ := hL2.slice
  have k1 : ¬ zn < 1 := by omega
  have k2 : ¬ zn > 64 := by omega
  have k2' : ¬ 64 < zn := by omega
  have k3 : ¬ ttl < 1 := by omega
  have k4 : ¬ 1073741824 < ttl := by omega
  refine seg cfg20_ok mixed PanicFree.body 1000 [false] [(17, false), (21, false), (25, false), (29, false)] h2'.rebase (by first | trivial | exact HpRep.nil | assumption) (by kernel_rfl) fun s_ hs_ => ?_
  simp (maxSteps := 10000000) [SX.vc, SX.stop, SX.contS, SX.contB, SX.sxStep, SX.stepPure, SX.stepNew, SX.stepStore, SX.guardIx, SX.evOp, SX.opd, SX.opds, SX.look, SX.putS, SX.gobs, SX.AllP, SX.leave, SX.lookB, SX.lookT, SX.evBin, SX.evInt, SX.evFill, SX.evBuild, SX.szs, SX.cellsV, SX.evNew, SX.evStore, SX.spliceL, SX.SV.cells, SX.evPick, SX.cnd, SX.NotAgg, Go.Value.cells, cfg20, k1, k2', k3, k4]
  refine ⟨by (unfold SX.Ob; first | trivial | omega | ((try simp only [SX.inK]); (try simp [SX.den, SX.IsU8, SX.AllP, *]); (try omega))), ?_⟩
  intro a3 w3 hr3' _
  have hr3 := h2'.unbase hr3'
  have hL3 := (hL2.keep hr3'.keeps (by simp [mutB]; omega)).mono (P' := fun x => w.heap.size ≤ x) fun x _ h => by have : w.heap.size ≤ w1.heap.size := hr1.keeps.size; omega
  exact post_retn (endC2 hr3 rfl rfl rfl tok31 rfl rfl ⟨_, rfl, hL3, hr3.keeps.toBelow⟩).1
def bgz (z : Int) : Int := 1 + (z.tmod 8 + 8).tmod 8
def bgt (t : Int) : Int := 1 + (t.tmod 50 + 50).tmod 50
theorem bgz_pos (z : Int) : 1 ≤ bgz z ∧ bgz z ≤ 8 := by
  have := tmod_pos (x := z) (n := 8) (by decide)
  unfold bgz
  omega
theorem bgt_pos (z : Int) : 1 ≤ bgt z ∧ bgt z ≤ 50 := by
  have := tmod_pos (x := z) (n := 50) (by decide)
  unfold bgt
  omega
def BgR (w : World) (z t : Int) (e : Ending) (w' : World) : Prop :=
  ∃ vS, e = .returned (den (.tu [.ag (coC (co0 (bgz z) 60 (bgt t)) (.slice none 0 0) vS (.slice none 0 0)), .v (.bool true)])) ∧ RdP (fun x => w.heap.size ≤ x) w' vS [⟨0, 60, -1, 0⟩] ∧ Below w.heap.size w w'
set_option maxRecDepth 100000 in
set_option maxHeartbeats 8000000 in
theorem begin_ok (w : World) (z t : Int) : Calls Try.prog 9 (denL [.v (.int .i64 z), .v (.int .i64 t)]).toArray w (BgR w z t) := by
  refine enter (F := frame0 w) Try.func9 rfl [.v (.int .i64 z), .v (.int .i64 t)] [] (by simp [Try.f9]) trivial (keeps0 w) fun a hr => ?_
  have q8 := tmod_pos (x := z) (n := 8) (by decide)
  have r8 : z.tmod 8 < 8 := Int.tmod_lt_of_pos _ (by decide)
  have s8 : -8 < z.tmod 8 := by
    have := Int.lt_tmod_of_pos z (show (0 : Int) < 8 by decide)
    omega
  have q5 := tmod_pos (x := t) (n := 50) (by decide)
  have r5 : t.tmod 50 < 50 := Int.tmod_lt_of_pos _ (by decide)
  have s5 : -50 < t.tmod 50 := by
    have := Int.lt_tmod_of_pos t (show (0 : Int) < 50 by decide)
    omega
  refine seg cfg9_ok mixed PanicFree.body 1000 [] [] hr (by first | trivial | exact HpRep.nil | assumption) (by kernel_rfl) fun sA hsA => ?_
  simp (maxSteps := 10000000) [SX.vc, SX.stop, SX.contS, SX.sxStep, SX.stepPure, SX.stepNew, SX.stepStore, SX.guardIx, SX.evOp, SX.opd, SX.look, SX.putS, SX.gobs, SX.AllP, SX.leave, SX.lookT, SX.evBin, SX.evInt, SX.arith, SX.cellsV, SX.evNew, SX.evStore, SX.env0, Go.Value.cells, cfg9, Try.f9]
  refine ⟨by (unfold SX.Ob; first | trivial | omega | ((try simp only [SX.inK]); (try simp [SX.den, SX.IsU8, SX.AllP, *]); (try omega))), ?_⟩
  intro a1 w1 hr1 _
  have hsA : sA < w1.heap.size := SO.rep_lt hr1.all.1.1
  have g1 := bgz_pos z
  have g2 := bgt_pos t
  refine post_call 20 [.v (.int .i64 (bgz z)), .v (.int .i64 60), .v (.int .i64 (bgt t))] hr1 (by first | exact wanted_none rfl | exact wanted_zero (hr1.env.same rfl rfl rfl rfl) rfl (by simp) | exact wanted_zero (hr1.env.same rfl rfl rfl rfl) rfl (by simp [*])) rfl (callable 20 Try.func20) (cnew_ok w1 (bgz z) 60 (bgt t) (by omega) (by omega) (by decide) (by decide) (by omega) (by omega)) ?_
  rintro e2 w2 ⟨v2, rfl, hL2, hb2⟩
  refine ⟨_, rfl, ?_⟩
  have h2' := hr1.ret hb2 19 (.tu [.ag (coC (co0 (bgz z) 60 (bgt t)) (.slice none 0 0) v2 (.slice none 0 0)), .v (.int .i64 0)]) rfl _ (hr1.all.below hb2) (by simp) rfl
  obtain ⟨ad, cp, rfl⟩ := hL2.slice
  refine seg cfg9_ok mixed PanicFree.body 1000 [] [] h2'.rebase (by first | trivial | exact HpRep.nil | assumption) (by kernel_rfl) fun s_ hs_ => ?_
  simp (maxSteps := 10000000) [SX.vc, SX.stop, SX.contS, SX.sxStep, SX.stepPure, SX.stepNew, SX.stepStore, SX.guardIx, SX.evOp, SX.opd, SX.look, SX.putS, SX.gobs, SX.AllP, SX.leave, SX.lookT, SX.evBin, SX.evInt, SX.evLoad, SX.shapeUp, SX.cellsV, SX.evNew, SX.evStore, SX.spliceL, SX.SV.cells, SX.TD.isAgg, SX.NotAgg, Go.Value.cells, cfg9, coC]
  refine ⟨by (unfold SX.Ob; first | trivial | omega | ((try simp only [SX.inK]); (try simp [SX.den, SX.IsU8, SX.AllP, *]); (try omega))), ?_⟩
  intro a3 w3 hr3' _
  have hr3 := h2'.unbase hr3'
  have hL3 := (hL2.keep hr3'.keeps (by simp [mutB]; omega)).mono (P' := fun x => w.heap.size ≤ x) fun x _ h => by have : w.heap.size ≤ w1.heap.size := hr1.keeps.size; omega
  exact post_retn (endC2 hr3 rfl rfl rfl tok31 rfl rfl ⟨_, rfl, hL3, hr3.keeps.toBelow⟩).1
end Go.Proofs.C8
namespace Go.Proofs.C8
open Go Go.Proofs Go.SX Go.RowKit Go.Proofs.L6
def FewP (L : List Evt) : Prop := (∀ x ∈ L, x.now ≤ 1152921504606846976) ∧ L.length ≤ 100
instance (L : List Evt) : Decidable (FewP L) := by unfold FewP; infer_instance
def FwLoop (w : World) (v : Value) (L : List Evt) (m : Nat) (a : Act) (w' : World) : Prop :=
  ∃ k : Nat, m = L.length - k ∧ k ≤ L.length ∧ (∀ j, j < k → (nth evt0 L j).now ≤ 1152921504606846976) ∧ RepX (frame0 w) ⟨[(7, 0, .v (.int .i64 k)), (6, 0, .v (.int .i64 L.length)), (5, 0, .v v), (0, 0, .v v), (2, 0, .v (.bool false))], [], 0, 0, 18, [], [], []⟩ a w'
set_option maxRecDepth 100000 in
set_option maxHeartbeats 8000000 in
theorem few_ok {P : Nat → Prop} (w : World) (v : Value) (L : List Evt) (hL : RdE P w v L) (hn : L.length ≤ 1000000000000000) : Calls Try.prog 8 (denL [.v v]).toArray w (Ret w (.v (.bool (decide (FewP L))))) := by
  obtain ⟨ad, cp, rfl⟩ := hL.slice
  refine enter (F := frame0 w) Try.func8 rfl [.v (.slice ad L.length cp)] [] (by simp [Try.f8]) trivial (keeps0 w) fun a hr => ?_
  refine seg cfg8_ok mixed PanicFree.body 1000 [] [] hr (by first | trivial | exact HpRep.nil | assumption) (by kernel_rfl) fun s_ hs_ => ?_
  simp (maxSteps := 10000000) [SX.vc, SX.stop, SX.contS, SX.sxStep, SX.stepPure, SX.guardIx, SX.evOp, SX.opd, SX.opds, SX.look, SX.putS, SX.gobs, SX.AllP, SX.leave, SX.lookT, SX.evBuiltin, SX.env0, cfg8, Try.f8]
  refine ⟨by (unfold SX.Ob; first | trivial | omega | ((try simp only [SX.inK]); (try simp [SX.den, SX.IsU8, SX.AllP, *]); (try omega))), ?_⟩
  intro a1 w1 hr1 _
  refine post_loop (FwLoop w (.slice ad L.length cp) L) L.length ⟨0, rfl, by omega, by omega, hr1.re (by simp [envTo, SX.look]) trivial rfl rfl⟩ ?_
  rintro m a2 w2 ⟨k, rfl, hk, hs, hr2⟩
  by_cases hlt : k < L.length
  · obtain ⟨b, o0, cap, u, fz, hP, hv, hrep⟩ := hL.opn hlt
    cases hv
    have hrep2 := SO.rep_same hrep (hr2.keeps.toBelow.block _ (SO.rep_lt hrep))
    obtain ⟨x, hx⟩ : ∃ x, nth evt0 L k = x := ⟨_, rfl⟩
    have h2 := (hr2.top 5 (.sl 0 b o0 0 L.length cp 8) rfl (by simp [den])).see _ (HpAll.one hrep2)
    by_cases hM : x.now ≤ 1152921504606846976
    · have hM' : ¬ 1152921504606846976 < x.now := by omega
      refine seg cfg8_ok mixed PanicFree.body 1000 [true, false] [] h2 (by first | trivial | exact HpRep.nil | assumption) (by kernel_rfl) fun s_ hs_ => ?_
      simp (maxSteps := 10000000) [SX.vc, SX.stop, SX.contS, SX.contB, SX.sxStep, SX.stepPure, SX.stepNew, SX.stepStore, SX.guardIx, SX.evOp, SX.opd, SX.look, SX.putS, SX.gobs, SX.AllP, SX.leave, SX.lookT, SX.evBin, SX.evInt, SX.arith, SX.evLoad, SX.shapeUp, SX.evFieldAddr, SX.evIndexAddr, SX.cellsV, SX.evNew, SX.evStore, SX.spliceL, SX.SV.cells, SX.TD.isAgg, SX.NotAgg, Go.Value.cells, cfg8, evC, hx, hM']
      refine ⟨by (unfold SX.Ob; first | trivial | omega | ((try simp only [SX.inK]); (try simp [SX.den, SX.IsU8, SX.AllP, *]); (try omega))), ?_⟩
      intro a5 w5 hr5 _
      exact post_rnd (L.length - (k + 1)) (by omega) ⟨k + 1, rfl, hlt, fun j hj => (by
        rcases Nat.lt_or_ge j k with h | h
        · exact hs j h
        · obtain rfl : j = k := by omega
          rw [hx]; exact hM), hr5.re (by simp [envTo, SX.look, den]) trivial rfl rfl⟩
    · have hM' : 1152921504606846976 < x.now := by omega
      refine seg cfg8_ok mixed PanicFree.body 1000 [true, true] [] h2 (by first | trivial | exact HpRep.nil | assumption) (by kernel_rfl) fun s_ hs_ => ?_
      simp (maxSteps := 10000000) [SX.vc, SX.stop, SX.contS, SX.contB, SX.sxStep, SX.stepPure, SX.stepNew, SX.stepStore, SX.guardIx, SX.evOp, SX.opd, SX.look, SX.putS, SX.gobs, SX.AllP, SX.leave, SX.lookT, SX.evBin, SX.evInt, SX.arith, SX.evLoad, SX.shapeUp, SX.evFieldAddr, SX.evIndexAddr, SX.cellsV, SX.evNew, SX.evStore, SX.spliceL, SX.SV.cells, SX.TD.isAgg, SX.NotAgg, Go.Value.cells, cfg8, evC, hx, hM']
      refine ⟨by (unfold SX.Ob; first | trivial | omega | ((try simp only [SX.inK]); (try simp [SX.den, SX.IsU8, SX.AllP, *]); (try omega))), ?_⟩
      intro a5 w5 hr5 _
      refine post_retn (end1 hr5 rfl rfl ⟨ret_dec ?_, hr5.keeps.toBelow⟩).1
      simp only [Bool.false_eq_true, false_iff]
      intro hf
      have := hf.1 x (by rw [← hx, nth_lt hlt]; exact List.getElem_mem hlt)
      omega
  · obtain rfl : k = L.length := by omega
    refine seg cfg8_ok mixed PanicFree.body 1000 [false] [] hr2 (by first | trivial | exact HpRep.nil | assumption) (by kernel_rfl) fun s_ hs_ => ?_
    simp (maxSteps := 10000000) [SX.vc, SX.stop, SX.contS, SX.contB, SX.contW, SX.sxStep, SX.stepPure, SX.guardIx, SX.evOp, SX.opd, SX.opds, SX.look, SX.putS, SX.gobs, SX.AllP, SX.leave, SX.lookT, SX.evBuiltin, SX.evBin, SX.evInt, SX.popTo, cfg8]
    refine ⟨by (unfold SX.Ob; first | trivial | omega | ((try simp only [SX.inK]); (try simp [SX.den, SX.IsU8, SX.AllP, *]); (try omega))), ?_⟩
    intro a3 w3 hr3 _
    refine post_retn (end1 hr3 rfl rfl ⟨ret_dec ?_, hr3.keeps.toBelow⟩).1
    rw [decide_eq_true_eq]
    constructor
    · intro h
      refine ⟨fun x hx => ?_, by omega⟩
      obtain ⟨j, hj, rfl⟩ := List.mem_iff_getElem.1 hx
      have := hs j hj
      rwa [nth_lt hj] at this
    · intro h
      have := h.2
      omega
def noA (er : Int) : Ans := ⟨er, 0, []⟩
def okA (ep : Int) : Ans := ⟨0, ep, []⟩
set_option maxRecDepth 100000 in
set_option maxHeartbeats 8000000 in
theorem fails_ok (w : World) (er : Int) : Calls Try.prog 30 (denL [.v (.int .i64 er)]).toArray w (Ret w (.ag (ansC (noA er) (.slice none 0 0)))) := by
  refine enter (F := frame0 w) Try.func30 rfl [.v (.int .i64 er)] [] (by simp [Try.f30]) trivial (keeps0 w) fun a hr => ?_
  refine seg cfg30_ok mixed PanicFree.body 1000 [] [] hr (by first | trivial | exact HpRep.nil | assumption) (by kernel_rfl) fun s_ hs_ => ?_
  simp (maxSteps := 10000000) [SX.vc, SX.stop, SX.contS, SX.sxStep, SX.stepPure, SX.stepNew, SX.stepStore, SX.guardIx, SX.evOp, SX.opd, SX.opds, SX.look, SX.putS, SX.gobs, SX.AllP, SX.leave, SX.lookT, SX.evFill, SX.evBuild, SX.szs, SX.cellsV, SX.evNew, SX.evStore, SX.spliceL, SX.SV.cells, SX.env0, SX.NotAgg, Go.Value.cells, cfg30, Try.f30]
  refine ⟨by (unfold SX.Ob; first | trivial | omega | ((try simp only [SX.inK]); (try simp [SX.den, SX.IsU8, SX.AllP, *]); (try omega))), ?_⟩
  intro a1 w1 hr1 _
  exact post_retn (endC1 hr1 rfl rfl rfl tok43 rfl ⟨rfl, hr1.keeps.toBelow⟩).1
def sameN (c d : Co) : Prop := c.T.last = d.T.last ∧ c.T.now = d.T.now ∧ c.ttl = d.ttl ∧ c.zn = d.zn
instance (c d : Co) : Decidable (sameN c d) := by unfold sameN; infer_instance
theorem eqNum {tt : List (Nat × TI)} {ok : Nat → Bool} (c d : Co) (h1 : lookT tt 78 = some ⟨.arr 4 3, 4, 32, .agg #[.int .i64 0, .int .i64 0, .int .i64 0, .int .i64 0]⟩ := by rfl) (h3 : lookT tt 3 = some ⟨.int .i64, 1, 8, .int .i64 0⟩ := by rfl) :
    evEqA tt ok 40 78 (.ag [.v (.int .i64 c.T.last), .v (.int .i64 c.T.now), .v (.int .i64 c.ttl), .v (.int .i64 c.zn)]) (.ag [.v (.int .i64 d.T.last), .v (.int .i64 d.T.now), .v (.int .i64 d.ttl), .v (.int .i64 d.zn)]) = some (decide (sameN c d)) := by
  have e : decide (sameN c d) = (c.T.last == d.T.last && (c.T.now == d.T.now && (c.ttl == d.ttl && c.zn == d.zn))) := by
    rw [Bool.eq_iff_iff]
    rw [decide_eq_true_iff]
    simp only [sameN, Bool.and_eq_true, beq_iff_eq]
  rw [e]
  simp [evEqA, evEqI, eqPlain, h1, h3, shapeUp, TD.isAgg, List.range, List.range.loop]
theorem ok78 : ∀ t, ((fun _ => false) t : Bool) = true → eqSide Try.prog t = true := by
  intro t h
  cases h
def sameC (c d : Co) : Prop := sameN c d ∧ c.T.L = d.T.L ∧ c.S = d.S ∧ c.W = d.W
instance (c d : Co) : Decidable (sameC c d) := by unfold sameC; infer_instance
theorem sameC_eq (c d : Co) : sameC c d ↔ c = d := by
  constructor
  · rintro ⟨⟨h1, h2, h3, h4⟩, h5, h6, h7⟩
    obtain ⟨⟨_, _, _⟩, _, _, _, _⟩ := c
    obtain ⟨⟨_, _, _⟩, _, _, _, _⟩ := d
    simp_all
  · rintro rfl
    exact ⟨⟨rfl, rfl, rfl, rfl⟩, rfl, rfl, rfl⟩
set_option maxRecDepth 100000 in
set_option maxHeartbeats 16000000 in
theorem same_ok {P P' : Nat → Prop} (w : World) (c d : Co) (vL vS vW uL uS uW : Value) (hc : RdCo P w vL vS vW c) (hd : RdCo P' w uL uS uW d) (hn1 : c.T.L.length ≤ 1000000) (hn2 : c.S.length ≤ 1000000) (hn3 : c.W.length ≤ 1000000) : Calls Try.prog 15 (denL [.ag (coC c vL vS vW), .ag (coC d uL uS uW)]).toArray w (Ret w (.v (.bool (decide (c = d))))) := by
  refine enter (F := frame0 w) Try.func15 rfl [.ag (coC c vL vS vW), .ag (coC d uL uS uW)] [] (by simp [Try.f15]) trivial (keeps0 w) fun a hr => ?_
  refine seg cfg15_ok mixed PanicFree.body 1000 [] [] hr (by first | trivial | exact HpRep.nil | assumption) (by kernel_rfl) fun s_ hs_ => ?_
  simp (maxSteps := 10000000) [SX.vc, SX.stop, SX.contS, SX.sxStep, SX.stepPure, SX.stepNew, SX.stepStore, SX.guardIx, SX.evOp, SX.opd, SX.opds, SX.look, SX.putS, SX.gobs, SX.AllP, SX.leave, SX.lookT, SX.evBin, SX.evEq, SX.evLoad, SX.shapeUp, SX.evFieldAddr, SX.evFill, SX.evBuild, SX.cellsV, SX.evNew, SX.evStore, SX.spliceL, SX.SV.cells, SX.env0, SX.TD.isAgg, Go.Value.cells, cfg15, Try.f15, coC]
  refine ⟨by (unfold SX.Ob; first | trivial | omega | ((try simp only [SX.inK]); (try simp [SX.den, SX.IsU8, SX.AllP, *]); (try omega))), ?_⟩
  intro a1 w1 hr1 _
  refine post_eqP (C := cfg15) cfg15_ok ok78 hr1 rfl rfl rfl (by kernel_rfl) (b := decide (sameN c d)) (eqNum c d) (wanted_none rfl) rfl (by simp) rfl fun a2 hr2 => ?_
  simp only [SX.eqR] at hr2
  have hfin : ∀ {p : Prop} [Decidable p], (p ↔ c = d) → ∀ b, b = decide p → Ending.returned (den (.v (.bool b))) = Ending.returned (den (.v (.bool (decide (c = d))))) := fun h b hb => by rw [hb]; simp only [den]; congr 2; rw [Bool.eq_iff_iff, decide_eq_true_iff, decide_eq_true_iff, h]
  by_cases hN : sameN c d
  rotate_left
  · have hno : ¬ c = d := fun h => hN ((sameC_eq c d).2 h).1
    have hb : decide (sameN c d) = false := decide_eq_false hN
    refine seg cfg15_ok mixed PanicFree.body 1000 [] [(30, false), (39, false), (46, false)] hr2 (by first | trivial | exact HpRep.nil | assumption) (by kernel_rfl) fun s_ hs_ => ?_
    simp (maxSteps := 10000000) [SX.vc, SX.stop, SX.contS, SX.sxStep, SX.stepPure, SX.guardIx, SX.evOp, SX.opd, SX.look, SX.putS, SX.gobs, SX.AllP, SX.leave, SX.lookB, SX.evPick, SX.cnd, Go.undef, cfg15, hb]
    refine ⟨by (unfold SX.Ob; first | trivial | omega | ((try simp only [SX.inK]); (try simp [SX.den, SX.IsU8, SX.AllP, *]); (try omega))), ?_⟩
    intro a3 w3 hr3 _
    exact post_retn (end1 hr3 rfl rfl ⟨by rw [decide_eq_false hno], hr3.keeps.toBelow⟩).1
  have hb : decide (sameN c d) = true := decide_eq_true hN
  refine seg cfg15_ok mixed PanicFree.body 1000 [] [(30, true)] hr2 (by first | trivial | exact HpRep.nil | assumption) (by kernel_rfl) fun s_ hs_ => ?_
  simp (maxSteps := 10000000) [SX.vc, SX.stop, SX.contS, SX.sxStep, SX.stepPure, SX.stepNew, SX.stepStore, SX.guardIx, SX.evOp, SX.opd, SX.look, SX.putS, SX.gobs, SX.AllP, SX.leave, SX.lookB, SX.lookT, SX.evLoad, SX.shapeUp, SX.evFieldAddr, SX.evNew, SX.evStore, SX.cnd, SX.TD.isAgg, cfg15, hb]
  refine ⟨by (unfold SX.Ob; first | trivial | omega | ((try simp only [SX.inK]); (try simp [SX.den, SX.IsU8, SX.AllP, *]); (try omega))), ?_⟩
  intro a3 w3 hr3 _
  refine post_call 32 [.v vL, .v uL] hr3 (by first | exact wanted_none rfl | exact wanted_zero (hr3.env.same rfl rfl rfl rfl) rfl (by simp) | exact wanted_zero (hr3.env.same rfl rfl rfl rfl) rfl (by simp [*])) rfl (callable 32 Try.func32) (sameLse w3 vL uL c.T.L d.T.L (hc.1.below hr3.keeps.toBelow) (hd.1.below hr3.keeps.toBelow) hn1) ?_
  rintro e4 w4 ⟨rfl, hb4⟩
  refine ⟨_, rfl, ?_⟩
  have h4 := hr3.ret hb4 37 (.v (.bool (decide (c.T.L = d.T.L)))) rfl _ (hr3.all.below hb4) (by simp) rfl
  by_cases h1 : c.T.L = d.T.L
  rotate_left
  · have hno : ¬ c = d := fun h => h1 (by rw [h])
    have hb' : decide (c.T.L = d.T.L) = false := decide_eq_false h1
    refine seg cfg15_ok mixed PanicFree.body 1000 [] [(30, true), (39, false), (46, false)] h4 (by first | trivial | exact HpRep.nil | assumption) (by kernel_rfl) fun s_ hs_ => ?_
    simp (maxSteps := 10000000) [SX.vc, SX.stop, SX.contS, SX.sxStep, SX.stepPure, SX.guardIx, SX.evOp, SX.opd, SX.look, SX.putS, SX.gobs, SX.AllP, SX.leave, SX.lookB, SX.evPick, SX.cnd, Go.undef, cfg15, hb']
    refine ⟨by (unfold SX.Ob; first | trivial | omega | ((try simp only [SX.inK]); (try simp [SX.den, SX.IsU8, SX.AllP, *]); (try omega))), ?_⟩
    intro a5 w5 hr5 _
    exact post_retn (end1 hr5 rfl rfl ⟨by rw [decide_eq_false hno], hr5.keeps.toBelow⟩).1
  have hb1 : decide (c.T.L = d.T.L) = true := decide_eq_true h1
  refine seg cfg15_ok mixed PanicFree.body 1000 [] [(30, true), (39, true)] h4 (by first | trivial | exact HpRep.nil | assumption) (by kernel_rfl) fun s_ hs_ => ?_
  simp (maxSteps := 10000000) [SX.vc, SX.stop, SX.contS, SX.sxStep, SX.stepPure, SX.stepNew, SX.stepStore, SX.guardIx, SX.evOp, SX.opd, SX.look, SX.putS, SX.gobs, SX.AllP, SX.lookB, SX.lookT, SX.evLoad, SX.shapeUp, SX.evFieldAddr, SX.evNew, SX.evStore, SX.evPick, SX.cnd, SX.TD.isAgg, cfg15, hb1]
  refine ⟨by (unfold SX.Ob; first | trivial | omega | ((try simp only [SX.inK]); (try simp [SX.den, SX.IsU8, SX.AllP, *]); (try omega))), ?_⟩
  intro a5 w5 hr5 _
  refine post_call 33 [.v vS, .v uS] hr5 (by first | exact wanted_none rfl | exact wanted_zero (hr5.env.same rfl rfl rfl rfl) rfl (by simp) | exact wanted_zero (hr5.env.same rfl rfl rfl rfl) rfl (by simp [*])) rfl (callable 33 Try.func33) (sameSpn w5 vS uS c.S d.S (hc.2.1.below hr5.keeps.toBelow) (hd.2.1.below hr5.keeps.toBelow) hn2) ?_
  rintro e6 w6 ⟨rfl, hb6⟩
  refine ⟨_, rfl, ?_⟩
  have h6 := hr5.ret hb6 44 (.v (.bool (decide (c.S = d.S)))) rfl _ (hr5.all.below hb6) (by simp) rfl
  by_cases h2 : c.S = d.S
  rotate_left
  · have hno : ¬ c = d := fun h => h2 (by rw [h])
    have hb' : decide (c.S = d.S) = false := decide_eq_false h2
    refine seg cfg15_ok mixed PanicFree.body 1000 [] [(30, true), (39, true), (46, false)] h6 (by first | trivial | exact HpRep.nil | assumption) (by kernel_rfl) fun s_ hs_ => ?_
    simp (maxSteps := 10000000) [SX.vc, SX.stop, SX.contS, SX.sxStep, SX.stepPure, SX.guardIx, SX.evOp, SX.opd, SX.look, SX.putS, SX.gobs, SX.AllP, SX.leave, SX.lookB, SX.evPick, SX.cnd, Go.undef, cfg15, hb']
    refine ⟨by (unfold SX.Ob; first | trivial | omega | ((try simp only [SX.inK]); (try simp [SX.den, SX.IsU8, SX.AllP, *]); (try omega))), ?_⟩
    intro a7 w7 hr7 _
    exact post_retn (end1 hr7 rfl rfl ⟨by rw [decide_eq_false hno], hr7.keeps.toBelow⟩).1
  have hb2 : decide (c.S = d.S) = true := decide_eq_true h2
  refine seg cfg15_ok mixed PanicFree.body 1000 [] [(30, true), (39, true), (46, true)] h6 (by first | trivial | exact HpRep.nil | assumption) (by kernel_rfl) fun s_ hs_ => ?_
  simp (maxSteps := 10000000) [SX.vc, SX.stop, SX.contS, SX.sxStep, SX.stepPure, SX.stepNew, SX.stepStore, SX.guardIx, SX.evOp, SX.opd, SX.look, SX.putS, SX.gobs, SX.AllP, SX.lookB, SX.lookT, SX.evLoad, SX.shapeUp, SX.evFieldAddr, SX.evNew, SX.evStore, SX.evPick, SX.cnd, SX.TD.isAgg, cfg15, hb2]
  refine ⟨by (unfold SX.Ob; first | trivial | omega | ((try simp only [SX.inK]); (try simp [SX.den, SX.IsU8, SX.AllP, *]); (try omega))), ?_⟩
  intro a7 w7 hr7 _
  refine post_call 34 [.v vW, .v uW] hr7 (by first | exact wanted_none rfl | exact wanted_zero (hr7.env.same rfl rfl rfl rfl) rfl (by simp) | exact wanted_zero (hr7.env.same rfl rfl rfl rfl) rfl (by simp [*])) rfl (callable 34 Try.func34) (sameFen w7 vW uW c.W d.W (hc.2.2.below hr7.keeps.toBelow) (hd.2.2.below hr7.keeps.toBelow) hn3) ?_
  rintro e8 w8 ⟨rfl, hb8⟩
  refine ⟨_, rfl, ?_⟩
  have h8 := hr7.ret hb8 51 (.v (.bool (decide (c.W = d.W)))) rfl _ (hr7.all.below hb8) (by simp) rfl
  refine seg cfg15_ok mixed PanicFree.body 1000 [] [(30, true), (39, true), (46, true)] h8 (by first | trivial | exact HpRep.nil | assumption) (by kernel_rfl) fun s_ hs_ => ?_
  simp (maxSteps := 10000000) [SX.vc, SX.stop, SX.contS, SX.sxStep, SX.stepPure, SX.guardIx, SX.evOp, SX.opd, SX.look, SX.putS, SX.gobs, SX.AllP, SX.leave, SX.lookB, SX.evPick, cfg15]
  refine ⟨by (unfold SX.Ob; first | trivial | omega | ((try simp only [SX.inK]); (try simp [SX.den, SX.IsU8, SX.AllP, *]); (try omega))), ?_⟩
  intro a9 w9 hr9 _
  exact post_retn (end1 hr9 rfl rfl ⟨hfin (p := c.W = d.W) ⟨fun h => (sameC_eq c d).1 ⟨hN, h1, h2, h⟩, fun h => by rw [h]⟩ _ rfl, hr9.keeps.toBelow⟩).1
end Go.Proofs.C8
namespace Go.Proofs.C8
open Go Go.Proofs Go.SX Go.RowKit Go.Proofs.L6
def ackQ (e : Evt) (x : Fen) : Bool := decide (x.z = e.z ∧ x.e = e.e)
def spanQ (e : Evt) (x : Spn) : Bool := decide (x.ow ≠ -1 ∧ x.ow ≠ e.h)
set_option maxRecDepth 100000 in
set_option maxHeartbeats 8000000 in
theorem zone1_ok (w : World) (x : Fen) (c3 : Nat) (z : Int) (h3 : (SO.cells [.v (.int .i64 z)] 3).rep w c3) : Calls Try.prog 46 (denL [.ag (fenC x), .ptr 0 c3 0]).toArray w (Ret w (.v (.bool (decide (x.z = z))))) := by
  refine enter (F := frame0 w) Try.func46 rfl [.ag (fenC x), .ptr 0 c3 0] [(c3, false, .cells [.v (.int .i64 z)] 3)] (by simp [Try.f46]) (HpAll.one h3) (keeps0 w) fun a hr => ?_
  refine seg cfg46_ok mixed PanicFree.body 1000 [] [] hr (by first | trivial | exact HpRep.nil | assumption) (by kernel_rfl) fun s_ hs_ => ?_
  simp (maxSteps := 10000000) [SX.vc, SX.stop, SX.contS, SX.sxStep, SX.stepPure, SX.stepNew, SX.guardIx, SX.evOp, SX.opd, SX.look, SX.putS, SX.gobs, SX.AllP, SX.leave, SX.lookT, SX.evBin, SX.evInt, SX.evLoad, SX.shapeUp, SX.evFieldAddr, SX.evNew, SX.SV.cells, SX.env0, SX.TD.isAgg, cfg46, Try.f46, fenC]
  refine ⟨by (unfold SX.Ob; first | trivial | omega | ((try simp only [SX.inK]); (try simp [SX.den, SX.IsU8, SX.AllP, *]); (try omega))), ?_⟩
  intro a1 w1 hr1 _
  exact post_retn (end1 hr1 rfl rfl ⟨ret_dec (by simp), hr1.keeps.toBelow⟩).1
set_option maxRecDepth 100000 in
set_option maxHeartbeats 8000000 in
theorem gone1_ok (w : World) (x : Fen) (c3 : Nat) (z : Int) (h3 : (SO.cells [.v (.int .i64 z)] 3).rep w c3) : Calls Try.prog 82 (denL [.ag (fenC x), .ptr 0 c3 0]).toArray w (Ret w (.v (.bool (decide (x.h = z))))) := by
  refine enter (F := frame0 w) Try.func82 rfl [.ag (fenC x), .ptr 0 c3 0] [(c3, false, .cells [.v (.int .i64 z)] 3)] (by simp [Try.f82]) (HpAll.one h3) (keeps0 w) fun a hr => ?_
  refine seg cfg82_ok mixed PanicFree.body 1000 [] [] hr (by first | trivial | exact HpRep.nil | assumption) (by kernel_rfl) fun s_ hs_ => ?_
  simp (maxSteps := 10000000) [SX.vc, SX.stop, SX.contS, SX.sxStep, SX.stepPure, SX.stepNew, SX.guardIx, SX.evOp, SX.opd, SX.look, SX.putS, SX.gobs, SX.AllP, SX.leave, SX.lookT, SX.evBin, SX.evInt, SX.evLoad, SX.shapeUp, SX.evFieldAddr, SX.evNew, SX.SV.cells, SX.env0, SX.TD.isAgg, cfg82, Try.f82, fenC]
  refine ⟨by (unfold SX.Ob; first | trivial | omega | ((try simp only [SX.inK]); (try simp [SX.den, SX.IsU8, SX.AllP, *]); (try omega))), ?_⟩
  intro a1 w1 hr1 _
  exact post_retn (end1 hr1 rfl rfl ⟨ret_dec (by simp), hr1.keeps.toBelow⟩).1
set_option maxRecDepth 100000 in
set_option maxHeartbeats 8000000 in
theorem ack1_ok (w : World) (x : Fen) (c3 D : Nat) (c : Co) (e : Evt) (vL vS vW : Value) (hne : c3 ≠ D) (h3 : (SO.cells [.ptr 1 D 0] 72).rep w c3) (hD : (SO.cells (deskC c e vL vS vW) 74).rep w D) : Calls Try.prog 49 (denL [.ag (fenC x), .ptr 0 c3 0]).toArray w (Ret w (.v (.bool (ackQ e x)))) := by
  refine enter (F := frame0 w) Try.func49 rfl [.ag (fenC x), .ptr 0 c3 0] [(c3, false, .cells [.ptr 1 D 0] 72), (D, false, .cells (deskC c e vL vS vW) 74)] (by simp [Try.f49]) ⟨⟨h3, by simp, by simpa using hne⟩, HpAll.one hD⟩ (keeps0 w) fun a hr => ?_
  by_cases h1 : x.z = e.z
  · refine seg cfg49_ok mixed PanicFree.body 1000 [] [(12, true)] hr (by first | trivial | exact HpRep.nil | assumption) (by kernel_rfl) fun s_ hs_ => ?_
    simp (maxSteps := 10000000) [SX.vc, SX.stop, SX.contS, SX.contR, SX.contD, SX.sxStep, SX.stepPure, SX.stepNew, SX.guardIx, SX.evOp, SX.opd, SX.look, SX.putS, SX.gobs, SX.AllP, SX.leave, SX.lookB, SX.lookT, SX.lookN, SX.evBin, SX.evInt, SX.evLoad, SX.shapeUp, SX.evFieldAddr, SX.evNew, SX.SV.cells, SX.evNil, SX.evPick, SX.cnd, SX.env0, SX.TD.isAgg, SX.thaw, Go.undef, cfg49, Try.f49, fenC, deskC, coC, evC, h1]
    refine ⟨by (unfold SX.Ob; first | trivial | omega | ((try simp only [SX.inK]); (try simp [SX.den, SX.IsU8, SX.AllP, *]); (try omega))), ?_⟩
    intro a1 w1 hr1 _
    exact post_retn (end1 hr1 rfl rfl ⟨by simp [den, ackQ, spanQ, h1, bne, BEq.beq], hr1.keeps.toBelow⟩).1
  · refine seg cfg49_ok mixed PanicFree.body 1000 [] [(12, false)] hr (by first | trivial | exact HpRep.nil | assumption) (by kernel_rfl) fun s_ hs_ => ?_
    simp (maxSteps := 10000000) [SX.vc, SX.stop, SX.contS, SX.contR, SX.contD, SX.sxStep, SX.stepPure, SX.stepNew, SX.guardIx, SX.evOp, SX.opd, SX.look, SX.putS, SX.gobs, SX.AllP, SX.leave, SX.lookB, SX.lookT, SX.lookN, SX.evBin, SX.evInt, SX.evLoad, SX.shapeUp, SX.evFieldAddr, SX.evNew, SX.SV.cells, SX.evNil, SX.evPick, SX.cnd, SX.env0, SX.TD.isAgg, SX.thaw, Go.undef, cfg49, Try.f49, fenC, deskC, coC, evC, h1]
    refine ⟨by (unfold SX.Ob; first | trivial | omega | ((try simp only [SX.inK]); (try simp [SX.den, SX.IsU8, SX.AllP, *]); (try omega))), ?_⟩
    intro a1 w1 hr1 _
    exact post_retn (end1 hr1 rfl rfl ⟨by simp [den, ackQ, spanQ, h1, bne, BEq.beq], hr1.keeps.toBelow⟩).1
set_option maxRecDepth 100000 in
set_option maxHeartbeats 8000000 in
theorem cont_ok {P : Nat → Prop} (g : Nat) (hcg : Callable Try.prog g) (w : World) (v : Value) (L : List Fen) (q : Fen → Bool) (c3 : Nat) (hL : RdF P w v L) (hn : L.length ≤ 1000000)
    (hq : ∀ w' x, Below w.heap.size w w' → Calls Try.prog g (denL [.ag (fenC x), .ptr 0 c3 0]).toArray w' (Ret w' (.v (.bool (q x))))) : Calls Try.prog 45 (denL [.v v, .fn (.func g) [] [.ptr 0 c3 0]]).toArray w (Ret w (.v (.bool (L.any q)))) := by
  obtain ⟨ad, cp, rfl⟩ := hL.slice
  refine enter (F := frame0 w) Try.func45 rfl [.v (.slice ad L.length cp), .fn (.func g) [] [.ptr 0 c3 0]] [] (by simp [Try.f45]) trivial (keeps0 w) fun a hr => ?_
  refine seg cfg45_ok mixed PanicFree.body 1000 [] [] hr (by first | trivial | exact HpRep.nil | assumption) (by kernel_rfl) fun s_ hs_ => ?_
  simp (maxSteps := 10000000) [SX.vc, SX.stop, SX.contS, SX.sxStep, SX.stepPure, SX.stepNew, SX.stepStore, SX.guardIx, SX.evOp, SX.opd, SX.look, SX.putS, SX.gobs, SX.AllP, SX.leave, SX.evNew, SX.evStore, SX.env0, cfg45, Try.f45]
  refine ⟨by (unfold SX.Ob; first | trivial | omega | ((try simp only [SX.inK]); (try simp [SX.den, SX.IsU8, SX.AllP, *]); (try omega))), ?_⟩
  intro a1 w1 hr1 _
  refine post_call 48 [.v (.slice ad L.length cp), .fn (.func g) [] [.ptr 0 c3 0]] hr1 (wanted_none rfl) rfl (callable 48 Try.func48) (ixf_ok g hcg w1 _ L q c3 (hL.below hr1.keeps.toBelow) hn (fun w' => Below w.heap.size w w') (fun _ _ h1 h2 => Below.more h1 h2 (by simp)) hr1.keeps.toBelow hq) ?_
  rintro e2 w2 ⟨⟨k, rfl, hk, hqk, _⟩ | ⟨rfl, hno⟩, hb2⟩
  · refine ⟨_, rfl, ?_⟩
    have h2 := hr1.ret hb2 7 (.v (.int .i64 k)) rfl _ (hr1.all.below hb2) (by simp) rfl
    refine seg cfg45_ok mixed PanicFree.body 1000 [] [] h2 (by first | trivial | exact HpRep.nil | assumption) (by kernel_rfl) fun s_ hs_ => ?_
    simp (maxSteps := 10000000) [SX.vc, SX.stop, SX.contS, SX.sxStep, SX.stepPure, SX.guardIx, SX.evOp, SX.opd, SX.look, SX.putS, SX.gobs, SX.AllP, SX.leave, SX.evBin, SX.evInt, cfg45]
    refine ⟨by (unfold SX.Ob; first | trivial | omega | ((try simp only [SX.inK]); (try simp [SX.den, SX.IsU8, SX.AllP, *]); (try omega))), ?_⟩
    intro a3 w3 hr3 _
    have hA : L.any q = true := List.any_eq_true.2 ⟨nth fen0 L k, by rw [nth_lt hk]; exact List.getElem_mem hk, hqk⟩
    exact post_retn (end1 hr3 rfl rfl ⟨by simp [den, hA], hr3.keeps.toBelow⟩).1
  · refine ⟨_, rfl, ?_⟩
    have h2 := hr1.ret hb2 7 (.v (.int .i64 (-1))) rfl _ (hr1.all.below hb2) (by simp) rfl
    refine seg cfg45_ok mixed PanicFree.body 1000 [] [] h2 (by first | trivial | exact HpRep.nil | assumption) (by kernel_rfl) fun s_ hs_ => ?_
    simp (maxSteps := 10000000) [SX.vc, SX.stop, SX.contS, SX.sxStep, SX.stepPure, SX.guardIx, SX.evOp, SX.opd, SX.look, SX.putS, SX.gobs, SX.AllP, SX.leave, SX.evBin, SX.evInt, cfg45]
    refine ⟨by (unfold SX.Ob; first | trivial | omega | ((try simp only [SX.inK]); (try simp [SX.den, SX.IsU8, SX.AllP, *]); (try omega))), ?_⟩
    intro a3 w3 hr3 _
    have hA : L.any q = false := by
      rw [List.any_eq_false]
      intro x hx
      obtain ⟨j, hj, rfl⟩ := List.mem_iff_getElem.1 hx
      have := hno j hj
      rw [nth_lt hj] at this
      simp [this]
    exact post_retn (end1 hr3 rfl rfl ⟨by simp [den, hA], hr3.keeps.toBelow⟩).1
set_option maxRecDepth 100000 in
set_option maxHeartbeats 8000000 in
theorem span1_ok (w : World) (x : Spn) (c3 D : Nat) (c : Co) (e : Evt) (vL vS vW : Value) (hne : c3 ≠ D) (h3 : (SO.cells [.ptr 1 D 0] 72).rep w c3) (hD : (SO.cells (deskC c e vL vS vW) 74).rep w D) : Calls Try.prog 57 (denL [.ag (S7.spnC x), .ptr 0 c3 0]).toArray w (Ret w (.v (.bool (spanQ e x)))) := by
  refine enter (F := frame0 w) Try.func57 rfl [.ag (S7.spnC x), .ptr 0 c3 0] [(c3, false, .cells [.ptr 1 D 0] 72), (D, false, .cells (deskC c e vL vS vW) 74)] (by simp [Try.f57]) ⟨⟨h3, by simp, by simpa using hne⟩, HpAll.one hD⟩ (keeps0 w) fun a hr => ?_
  by_cases h1 : x.ow = -1
  · refine seg cfg57_ok mixed PanicFree.body 1000 [] [(7, false)] hr (by first | trivial | exact HpRep.nil | assumption) (by kernel_rfl) fun s_ hs_ => ?_
    simp (maxSteps := 10000000) [SX.vc, SX.stop, SX.contS, SX.contR, SX.contD, SX.sxStep, SX.stepPure, SX.stepNew, SX.guardIx, SX.evOp, SX.opd, SX.look, SX.putS, SX.gobs, SX.AllP, SX.leave, SX.lookB, SX.lookT, SX.lookN, SX.evBin, SX.evInt, SX.evLoad, SX.shapeUp, SX.evFieldAddr, SX.evNew, SX.SV.cells, SX.evNil, SX.evPick, SX.cnd, SX.env0, SX.TD.isAgg, SX.thaw, Go.undef, cfg57, Try.f57, S7.spnC, deskC, coC, evC, h1]
    refine ⟨by (unfold SX.Ob; first | trivial | omega | ((try simp only [SX.inK]); (try simp [SX.den, SX.IsU8, SX.AllP, *]); (try omega))), ?_⟩
    intro a1 w1 hr1 _
    exact post_retn (end1 hr1 rfl rfl ⟨by simp [den, ackQ, spanQ, h1, bne, BEq.beq], hr1.keeps.toBelow⟩).1
  · refine seg cfg57_ok mixed PanicFree.body 1000 [] [(7, true)] hr (by first | trivial | exact HpRep.nil | assumption) (by kernel_rfl) fun s_ hs_ => ?_
    simp (maxSteps := 10000000) [SX.vc, SX.stop, SX.contS, SX.contR, SX.contD, SX.sxStep, SX.stepPure, SX.stepNew, SX.guardIx, SX.evOp, SX.opd, SX.look, SX.putS, SX.gobs, SX.AllP, SX.leave, SX.lookB, SX.lookT, SX.lookN, SX.evBin, SX.evInt, SX.evLoad, SX.shapeUp, SX.evFieldAddr, SX.evNew, SX.SV.cells, SX.evNil, SX.evPick, SX.cnd, SX.env0, SX.TD.isAgg, SX.thaw, Go.undef, cfg57, Try.f57, S7.spnC, deskC, coC, evC, h1]
    refine ⟨by (unfold SX.Ob; first | trivial | omega | ((try simp only [SX.inK]); (try simp [SX.den, SX.IsU8, SX.AllP, *]); (try omega))), ?_⟩
    intro a1 w1 hr1 _
    exact post_retn (end1 hr1 rfl rfl ⟨by simp [den, ackQ, spanQ, h1, bne, BEq.beq], hr1.keeps.toBelow⟩).1
def IxRs (w : World) (L : List Spn) (q : Spn → Bool) (e : Ending) (w' : World) : Prop := ((∃ k : Nat, e = .returned (.int .i64 k) ∧ k < L.length ∧ q (nth S7.spn0 L k) = true ∧ ∀ j, j < k → q (nth S7.spn0 L j) = false) ∨ (e = .returned (.int .i64 (-1)) ∧ ∀ j, j < L.length → q (nth S7.spn0 L j) = false)) ∧ Below w.heap.size w w'
def IxLoops (g : Nat) (w : World) (v : Value) (L : List Spn) (q : Spn → Bool) (c3 : Nat) (m : Nat) (a : Act) (w' : World) : Prop :=
  ∃ k : Nat, m = L.length - k ∧ k ≤ L.length ∧ (∀ j, j < k → q (nth S7.spn0 L j) = false) ∧ RepX (frame0 w) ⟨[(8, 0, .v (.int .i64 k)), (7, 0, .v (.int .i64 L.length)), (0, 0, .v v), (1, 0, .fn (.func g) [] [.ptr 0 c3 0])], [], 0, 0, 19, [], [], []⟩ a w'
set_option maxRecDepth 100000 in
set_option maxHeartbeats 8000000 in
theorem ixs_ok {P : Nat → Prop} (g : Nat) (hcg : Callable Try.prog g) (w : World) (v : Value) (L : List Spn) (q : Spn → Bool) (c3 : Nat) (hL : RdP P w v L) (hn : L.length ≤ 1000000) (ok : World → Prop) (hok : ∀ w1 w2, ok w1 → KeepsTo w1 [] w2 → ok w2) (hw : ok w)
    (hq : ∀ w' x, ok w' → Calls Try.prog g (denL [.ag (S7.spnC x), .ptr 0 c3 0]).toArray w' (Ret w' (.v (.bool (q x))))) : Calls Try.prog 72 (denL [.v v, .fn (.func g) [] [.ptr 0 c3 0]]).toArray w (IxRs w L q) := by
  obtain ⟨ad, cp, rfl⟩ := hL.slice
  refine enter (F := frame0 w) Try.func72 rfl [.v (.slice ad L.length cp), .fn (.func g) [] [.ptr 0 c3 0]] [] (by simp [Try.f72]) trivial (keeps0 w) fun a hr => ?_
  refine seg cfg72_ok mixed PanicFree.body 1000 [] [] hr (by first | trivial | exact HpRep.nil | assumption) (by kernel_rfl) fun s_ hs_ => ?_
  simp (maxSteps := 10000000) [SX.vc, SX.stop, SX.contS, SX.sxStep, SX.stepPure, SX.guardIx, SX.evOp, SX.opd, SX.opds, SX.look, SX.putS, SX.gobs, SX.AllP, SX.leave, SX.lookT, SX.evBuiltin, SX.env0, cfg72, Try.f72]
  refine ⟨by (unfold SX.Ob; first | trivial | omega | ((try simp only [SX.inK]); (try simp [SX.den, SX.IsU8, SX.AllP, *]); (try omega))), ?_⟩
  intro a1 w1 hr1 _
  refine post_loop (IxLoops g w (.slice ad L.length cp) L q c3) L.length ⟨0, rfl, by omega, by omega, hr1.re (by simp [envTo, SX.look]) trivial rfl rfl⟩ ?_
  rintro m a2 w2 ⟨k, rfl, hk, hs, hr2⟩
  by_cases hlt : k < L.length
  · obtain ⟨b, o0, cap, u, fz, hP, hv, hrep⟩ := hL.opn hlt
    cases hv
    have hrep2 := SO.rep_same hrep (hr2.keeps.toBelow.block _ (SO.rep_lt hrep))
    obtain ⟨x, hx⟩ : ∃ x, nth S7.spn0 L k = x := ⟨_, rfl⟩
    have h2 := (hr2.top 0 (.sl 0 b o0 0 L.length cp 4) rfl (by simp [den])).see _ (HpAll.one hrep2)
    refine seg cfg72_ok mixed PanicFree.body 1000 [true] [] h2 (by first | trivial | exact HpRep.nil | assumption) (by kernel_rfl) fun s_ hs_ => ?_
    simp (maxSteps := 10000000) [SX.vc, SX.stop, SX.contS, SX.contB, SX.sxStep, SX.stepPure, SX.stepNew, SX.stepStore, SX.guardIx, SX.evOp, SX.opd, SX.look, SX.putS, SX.gobs, SX.AllP, SX.leave, SX.lookT, SX.evBin, SX.evInt, SX.evLoad, SX.shapeUp, SX.evIndexAddr, SX.evNew, SX.evStore, SX.TD.isAgg, cfg72, S7.spnC, hx]
    refine ⟨by (unfold SX.Ob; first | trivial | omega | ((try simp only [SX.inK]); (try simp [SX.den, SX.IsU8, SX.AllP, *]); (try omega))), ?_⟩
    intro a3 w3 hr3 _
    refine post_call g [.ag (S7.spnC x), .ptr 0 c3 0] hr3 (wanted_none rfl) rfl hcg (hq w3 x (hok _ _ hw hr3.keeps)) ?_
    rintro e4 w4 ⟨rfl, hb4⟩
    refine ⟨_, rfl, ?_⟩
    have h4 := hr3.ret hb4 16 (.v (.bool (q x))) rfl _ (hr3.all.below hb4) (by simp) rfl
    by_cases hM : q x = true
    · refine seg cfg72_ok mixed PanicFree.body 1000 [true] [] h4 (by first | trivial | exact HpRep.nil | assumption) (by kernel_rfl) fun s_ hs_ => ?_
      simp (maxSteps := 10000000) [SX.vc, SX.stop, SX.contS, SX.contB, SX.sxStep, SX.stepPure, SX.guardIx, SX.evOp, SX.opd, SX.look, SX.putS, SX.gobs, SX.AllP, SX.leave, SX.evBin, SX.evInt, SX.arith, cfg72, hM]
      refine ⟨by (unfold SX.Ob; first | trivial | omega | ((try simp only [SX.inK]); (try simp [SX.den, SX.IsU8, SX.AllP, *]); (try omega))), ?_⟩
      intro a5 w5 hr5 _
      exact post_retn (end1 hr5 rfl rfl ⟨.inl ⟨k, rfl, hlt, hx ▸ hM, hs⟩, hr5.keeps.toBelow⟩).1
    · have hM' : q x = false := by simpa using hM
      refine seg cfg72_ok mixed PanicFree.body 1000 [false] [] h4 (by first | trivial | exact HpRep.nil | assumption) (by kernel_rfl) fun s_ hs_ => ?_
      simp (maxSteps := 10000000) [SX.vc, SX.stop, SX.contS, SX.contB, SX.sxStep, SX.stepPure, SX.guardIx, SX.evOp, SX.opd, SX.look, SX.putS, SX.gobs, SX.AllP, SX.leave, SX.evBin, SX.evInt, SX.arith, cfg72, hM']
      refine ⟨by (unfold SX.Ob; first | trivial | omega | ((try simp only [SX.inK]); (try simp [SX.den, SX.IsU8, SX.AllP, *]); (try omega))), ?_⟩
      intro a5 w5 hr5 _
      exact post_rnd (L.length - (k + 1)) (by omega) ⟨k + 1, rfl, hlt, fun j hj => (by
        rcases Nat.lt_or_ge j k with h | h
        · exact hs j h
        · obtain rfl : j = k := by omega
          rw [hx]; exact hM'), hr5.re (by simp [envTo, SX.look, den]) trivial rfl rfl⟩
  · obtain rfl : k = L.length := by omega
    refine seg cfg72_ok mixed PanicFree.body 1000 [false] [] hr2 (by first | trivial | exact HpRep.nil | assumption) (by kernel_rfl) fun s_ hs_ => ?_
    simp (maxSteps := 10000000) [SX.vc, SX.stop, SX.contS, SX.contB, SX.contW, SX.sxStep, SX.stepPure, SX.guardIx, SX.evOp, SX.opd, SX.look, SX.putS, SX.gobs, SX.AllP, SX.leave, SX.evBin, SX.evInt, SX.popTo, cfg72]
    refine ⟨by (unfold SX.Ob; first | trivial | omega | ((try simp only [SX.inK]); (try simp [SX.den, SX.IsU8, SX.AllP, *]); (try omega))), ?_⟩
    intro a3 w3 hr3 _
    exact post_retn (end1 hr3 rfl rfl ⟨.inr ⟨rfl, hs⟩, hr3.keeps.toBelow⟩).1
set_option maxRecDepth 100000 in
set_option maxHeartbeats 8000000 in
theorem conts_ok {P : Nat → Prop} (g : Nat) (hcg : Callable Try.prog g) (w : World) (v : Value) (L : List Spn) (q : Spn → Bool) (c3 : Nat) (hL : RdP P w v L) (hn : L.length ≤ 1000000)
    (hq : ∀ w' x, Below w.heap.size w w' → Calls Try.prog g (denL [.ag (S7.spnC x), .ptr 0 c3 0]).toArray w' (Ret w' (.v (.bool (q x))))) : Calls Try.prog 56 (denL [.v v, .fn (.func g) [] [.ptr 0 c3 0]]).toArray w (Ret w (.v (.bool (L.any q)))) := by
  obtain ⟨ad, cp, rfl⟩ := hL.slice
  refine enter (F := frame0 w) Try.func56 rfl [.v (.slice ad L.length cp), .fn (.func g) [] [.ptr 0 c3 0]] [] (by simp [Try.f56]) trivial (keeps0 w) fun a hr => ?_
  refine seg cfg56_ok mixed PanicFree.body 1000 [] [] hr (by first | trivial | exact HpRep.nil | assumption) (by kernel_rfl) fun s_ hs_ => ?_
  simp (maxSteps := 10000000) [SX.vc, SX.stop, SX.contS, SX.sxStep, SX.stepPure, SX.stepNew, SX.stepStore, SX.guardIx, SX.evOp, SX.opd, SX.look, SX.putS, SX.gobs, SX.AllP, SX.leave, SX.evNew, SX.evStore, SX.env0, cfg56, Try.f56]
  refine ⟨by (unfold SX.Ob; first | trivial | omega | ((try simp only [SX.inK]); (try simp [SX.den, SX.IsU8, SX.AllP, *]); (try omega))), ?_⟩
  intro a1 w1 hr1 _
  refine post_call 72 [.v (.slice ad L.length cp), .fn (.func g) [] [.ptr 0 c3 0]] hr1 (wanted_none rfl) rfl (callable 72 Try.func72) (ixs_ok g hcg w1 _ L q c3 (hL.below hr1.keeps.toBelow) hn (fun w' => Below w.heap.size w w') (fun _ _ h1 h2 => Below.more h1 h2 (by simp)) hr1.keeps.toBelow hq) ?_
  rintro e2 w2 ⟨⟨k, rfl, hk, hqk, _⟩ | ⟨rfl, hno⟩, hb2⟩
  · refine ⟨_, rfl, ?_⟩
    have h2 := hr1.ret hb2 7 (.v (.int .i64 k)) rfl _ (hr1.all.below hb2) (by simp) rfl
    refine seg cfg56_ok mixed PanicFree.body 1000 [] [] h2 (by first | trivial | exact HpRep.nil | assumption) (by kernel_rfl) fun s_ hs_ => ?_
    simp (maxSteps := 10000000) [SX.vc, SX.stop, SX.contS, SX.sxStep, SX.stepPure, SX.guardIx, SX.evOp, SX.opd, SX.look, SX.putS, SX.gobs, SX.AllP, SX.leave, SX.evBin, SX.evInt, cfg56]
    refine ⟨by (unfold SX.Ob; first | trivial | omega | ((try simp only [SX.inK]); (try simp [SX.den, SX.IsU8, SX.AllP, *]); (try omega))), ?_⟩
    intro a3 w3 hr3 _
    have hA : L.any q = true := List.any_eq_true.2 ⟨nth S7.spn0 L k, by rw [nth_lt hk]; exact List.getElem_mem hk, hqk⟩
    exact post_retn (end1 hr3 rfl rfl ⟨by simp [den, hA], hr3.keeps.toBelow⟩).1
  · refine ⟨_, rfl, ?_⟩
    have h2 := hr1.ret hb2 7 (.v (.int .i64 (-1))) rfl _ (hr1.all.below hb2) (by simp) rfl
    refine seg cfg56_ok mixed PanicFree.body 1000 [] [] h2 (by first | trivial | exact HpRep.nil | assumption) (by kernel_rfl) fun s_ hs_ => ?_
    simp (maxSteps := 10000000) [SX.vc, SX.stop, SX.contS, SX.sxStep, SX.stepPure, SX.guardIx, SX.evOp, SX.opd, SX.look, SX.putS, SX.gobs, SX.AllP, SX.leave, SX.evBin, SX.evInt, cfg56]
    refine ⟨by (unfold SX.Ob; first | trivial | omega | ((try simp only [SX.inK]); (try simp [SX.den, SX.IsU8, SX.AllP, *]); (try omega))), ?_⟩
    intro a3 w3 hr3 _
    have hA : L.any q = false := by
      rw [List.any_eq_false]
      intro x hx
      obtain ⟨j, hj, rfl⟩ := List.mem_iff_getElem.1 hx
      have := hno j hj
      rw [nth_lt hj] at this
      simp [this]
    exact post_retn (end1 hr3 rfl rfl ⟨by simp [den, hA], hr3.keeps.toBelow⟩).1
end Go.Proofs.C8
namespace Go.Proofs.C8
open Go Go.Proofs Go.SX Go.RowKit Go.Proofs.L6
def grantA (c : Co) (key h : Int) : Ans := if grantE c.T key h c.ttl = 0 then okA (grantX c.T key h c.ttl).e else noA (grantE c.T key h c.ttl)
def grantC (c : Co) (key h : Int) : Co := { c with T := grantT c.T key h c.ttl }
def zoneA (c : Co) (e : Evt) : Ans :=
  if e.z < 0 ∨ c.zn ≤ e.z then noA 1 else if ¬ memP c e.h then noA 4
  else if whoH c e.z ≠ -1 ∨ c.W.any (fun f => decide (f.z = e.z)) = true then noA 60 else ⟨0, c.T.last + 1, [⟨e.z, e.h, c.T.last + 1⟩]⟩
def zoneC (c : Co) (e : Evt) : Co := { c with T := { c.T with last := c.T.last + 1 }, W := c.W ++ [⟨e.z, e.h, c.T.last + 1⟩] }
def ackI (c : Co) (e : Evt) : Nat := c.W.findIdx (ackQ e)
def ackX (c : Co) (e : Evt) : Lse := ⟨e.z, e.h, e.e, c.T.now + c.ttl⟩
def ackA (c : Co) (e : Evt) : Ans := if ackI c e < c.W.length then (if (nth fen0 c.W (ackI c e)).h ≠ e.h then noA 61 else okA e.e) else noA 4
def ackC (c : Co) (e : Evt) : Co := { c with T := { c.T with L := insK (ackX c e) c.T.L }, W := c.W.take (ackI c e) ++ c.W.drop (ackI c e + 1) }
def heldS (S : List Spn) (e : Evt) : Bool := S.any fun s => spanQ e s && decide (s.fr < e.to ∧ e.fr < s.to)
def spanA (c : Co) (e : Evt) : Ans :=
  if ¬ memP c e.h then noA 4 else if ¬ S7.Within c.S e.fr e.to then noA 1 else if heldS c.S e = true then noA 60
  else if S7.giveE c.S e.fr e.to e.h (c.T.last + 1) ≠ 0 then noA (S7.giveE c.S e.fr e.to e.h (c.T.last + 1)) else okA (c.T.last + 1)
def spanC (c : Co) (e : Evt) : Co := { c with T := { c.T with last := c.T.last + 1 }, S := S7.giveL c.S e.fr e.to e.h (c.T.last + 1) }
def electA (c : Co) (e : Evt) : Ans := if ¬ memP c e.h then noA 4 else grantA c 1000 e.h
def goneS (S : List Spn) (h : Int) : List Spn := if S7.takeE S h = 0 then S7.takeL S h else S
def gone1 (c : Co) (l : Lse) : Co := if l.k - 2000 < 0 then c else { c with S := goneS c.S (l.k - 2000), W := keepL (fun f => decide (f.h = l.k - 2000)) c.W }
def goneC (c : Co) (M : List Lse) : Co := M.foldl gone1 c
def tickA (c : Co) (e : Evt) : Ans := noA (tickE c.T e.now)
def tickC (c : Co) (e : Evt) : Co := goneC { c with T := tickT c.T e.now } (tickO c.T e.now)
def renewA (c : Co) (e : Evt) : Ans := noA (renE c.T e.key e.h e.e c.ttl)
def renewC (c : Co) (e : Evt) : Co := { c with T := renT c.T e.key e.h e.e c.ttl }
def leaveA (c : Co) (e : Evt) : Ans :=
  if ¬ HasT c.T e.key then noA 4 else if (holdX c.T e.key).h ≠ e.h ∨ (holdX c.T e.key).e ≠ e.e then noA 61 else noA (revE c.T e.key)
def leaveC (c : Co) (e : Evt) : Co := gone1 { c with T := revT c.T e.key } (holdX c.T e.key)
def opA (c : Co) (e : Evt) : Ans :=
  if e.d = 1 then grantA c (2000 + e.h) e.h else if e.d = 2 then zoneA c e else if e.d = 3 then ackA c e else if e.d = 4 then spanA c e
  else if e.d = 5 then electA c e else if e.d = 6 then tickA c e else if e.d = 7 then renewA c e else leaveA c e
def opC (c : Co) (e : Evt) : Co :=
  if e.d = 1 then grantC c (2000 + e.h) e.h else if e.d = 2 then zoneC c e else if e.d = 3 then ackC c e else if e.d = 4 then spanC c e
  else if e.d = 5 then grantC c 1000 e.h else if e.d = 6 then tickC c e else if e.d = 7 then renewC c e else leaveC c e
def may (e : Evt) : Prop := 1 ≤ e.d ∧ e.d ≤ 8 ∧ (e.d ≠ 6 → 0 ≤ e.h ∧ e.h < 8)
instance (e : Evt) : Decidable (may e) := by unfold may; infer_instance
def doA (c : Co) (e : Evt) : Ans := if may e then opA c e else noA 1
def doC (c : Co) (e : Evt) : Co := if (doA c e).er = 0 then opC c e else c
end Go.Proofs.C8
