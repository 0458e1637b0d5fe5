/- CzF: texts of this proof, joined. -/
import Derived.Test.YtbhkpmnieopddaaCzE
set_option linter.unusedVariables false
set_option linter.unusedSimpArgs false
set_option linter.unusedSectionVars false
namespace Go.Proofs.C8
open Go Go.Proofs Go.SX Go.RowKit Go.Proofs.L6
def FInv (F : Int → Int) (c : Co) : Prop := ∀ x ∈ c.T.L, x.k < c.zn → x.e = F x.k
def updF (F : Int → Int) (z e : Int) : Int → Int := fun j => if j = z then e else F j
def nxF (F : Int → Int) (c : Co) (e : Evt) : Int → Int := if (doA c e).er = 0 ∧ e.d = 3 then updF F e.z (doA c e).ep else F
def mkE (e : Evt) : Prop := e.d = 1 ∨ e.d = 2 ∨ e.d = 4 ∨ e.d = 5
instance (e : Evt) : Decidable (mkE e) := by unfold mkE; infer_instance
theorem once_step {n : Nat} {c : Co} (I : Inv n c) {F : Int → Int} (hF : FInv F c) {e : Evt} (hnow : e.now ≤ 1152921504606846976) :
    ((doA c e).er = 0 → mkE e → (doA c e).ep = c.T.last + 1 ∧ (doC c e).T.last = c.T.last + 1) ∧ (¬ ((doA c e).er = 0 ∧ mkE e) → (doC c e).T.last = c.T.last) ∧ FInv (nxF F c e) (doC c e) := by
  have z8 := I.z8
  by_cases he : (doA c e).er = 0
  rotate_left
  · have hC : doC c e = c := by unfold doC; rw [if_neg he]
    rw [hC]
    refine ⟨fun h => absurd h he, fun _ => rfl, ?_⟩
    unfold nxF
    rw [if_neg fun h => he h.1]
    exact hF
  have hC : doC c e = opC c e := by unfold doC; rw [if_pos he]
  have hm : may e := by
    by_cases h : may e
    · exact h
    · unfold doA at he
      rw [if_neg h] at he
      exact absurd he (by decide)
  have hA : doA c e = opA c e := if_pos hm
  rw [hC]
  obtain ⟨h1, h2, h3⟩ := hm
  have keep : ∀ {d : Co}, d.zn = c.zn → e.d ≠ 3 → (∀ x ∈ d.T.L, x.k < d.zn → ∃ y ∈ c.T.L, y.k = x.k ∧ y.e = x.e) → FInv (nxF F c e) d := fun {d} hz hd hs x hx hk => by
    unfold nxF
    rw [if_neg fun h => hd h.2]
    obtain ⟨y, hy, hyk, hye⟩ := hs x hx hk
    rw [← hye, ← hyk]
    exact hF y hy (by rw [hyk, ← hz]; exact hk)
  have grant : ∀ {k h : Int}, (k = 1000 ∨ 2000 ≤ k) → e.d ≠ 3 → mkE e → (grantA c k h).er = 0 → opA c e = grantA c k h → opC c e = grantC c k h →
      ((doA c e).er = 0 → mkE e → (doA c e).ep = c.T.last + 1 ∧ (opC c e).T.last = c.T.last + 1) ∧ (¬ ((doA c e).er = 0 ∧ mkE e) → (opC c e).T.last = c.T.last) ∧ FInv (nxF F c e) (opC c e) := fun {k h} hk hd hmk her h1 h2 => by
    obtain ⟨hg, hn, hT, hX⟩ := grantE_0 (grantA_er.symm.trans her)
    have eT : (grantC c k h).T = ⟨c.T.last + 1, c.T.now, insK (newX c.T k h c.ttl) c.T.L⟩ := hT
    rw [h2]
    refine ⟨fun _ _ => ⟨?_, by rw [eT]⟩, fun h' => absurd ⟨he, hmk⟩ h', keep rfl hd fun x hx hxk => ?_⟩
    · rw [hA, h1]
      unfold grantA
      rw [if_pos (grantA_er.symm.trans her), hX]
      rfl
    · rw [eT] at hx
      rcases mem_insK.1 hx with rfl | ⟨hx, _⟩
      · have : (newX c.T k h c.ttl).k = k := rfl
        have : (grantC c k h).zn = c.zn := rfl
        omega
      · exact ⟨x, hx, rfl, rfl⟩
  rw [hA] at he
  by_cases d1 : e.d = 1
  · have e1 : opA c e = grantA c (2000 + e.h) e.h := by unfold opA; rw [if_pos d1]
    have e2 : opC c e = grantC c (2000 + e.h) e.h := by unfold opC; rw [if_pos d1]
    have := h3 (by omega)
    exact grant (.inr (by omega)) (by omega) (.inl d1) (e1 ▸ he) e1 e2
  by_cases d2 : e.d = 2
  · have e1 : opA c e = zoneA c e := by unfold opA; rw [if_neg d1, if_pos d2]
    have e2 : opC c e = zoneC c e := by unfold opC; rw [if_neg d1, if_pos d2]
    obtain ⟨_, _, _, _, _, g⟩ := zoneA_0 (e1 ▸ he)
    rw [hA, e1, e2, g]
    exact ⟨fun _ _ => ⟨rfl, rfl⟩, fun h' => absurd ⟨rfl, .inr (.inl d2)⟩ h', keep rfl (by omega) fun x hx _ => ⟨x, hx, rfl, rfl⟩⟩
  by_cases d3 : e.d = 3
  · have e1 : opA c e = ackA c e := by unfold opA; rw [if_neg d1, if_neg d2, if_pos d3]
    have e2 : opC c e = ackC c e := by unfold opC; rw [if_neg d1, if_neg d2, if_pos d3]
    obtain ⟨_, _, _, _, _, _, _, _, g⟩ := ackA_0 (e1 ▸ he)
    have hn : ¬ mkE e := fun h => by unfold mkE at h; omega
    rw [hA, e1, e2, g]
    refine ⟨fun _ h => absurd h hn, fun _ => rfl, fun x hx hk => ?_⟩
    have hN : nxF F c e = updF F e.z e.e := by
      unfold nxF
      rw [hA, e1, g, if_pos ⟨rfl, d3⟩]
      rfl
    rw [hN]
    unfold updF
    rcases mem_insK.1 (show x ∈ insK (ackX c e) c.T.L from hx) with rfl | ⟨hx, hne⟩
    · exact (if_pos rfl).symm
    · rw [if_neg (show ¬ x.k = e.z from hne)]
      exact hF x hx hk
  by_cases d4 : e.d = 4
  · have e1 : opA c e = spanA c e := by unfold opA; rw [if_neg d1, if_neg d2, if_neg d3, if_pos d4]
    have e2 : opC c e = spanC c e := by unfold opC; rw [if_neg d1, if_neg d2, if_neg d3, if_pos d4]
    obtain ⟨_, _, _, _, g⟩ := spanA_0 (e1 ▸ he)
    rw [hA, e1, e2, g]
    exact ⟨fun _ _ => ⟨rfl, rfl⟩, fun h' => absurd ⟨rfl, .inr (.inr (.inl d4))⟩ h', keep rfl (by omega) fun x hx _ => ⟨x, hx, rfl, rfl⟩⟩
  by_cases d5 : e.d = 5
  · have e1 : opA c e = electA c e := by unfold opA; rw [if_neg d1, if_neg d2, if_neg d3, if_neg d4, if_pos d5]
    have e2 : opC c e = grantC c 1000 e.h := by unfold opC; rw [if_neg d1, if_neg d2, if_neg d3, if_neg d4, if_pos d5]
    rw [e1] at he
    have e3 : electA c e = grantA c 1000 e.h := by
      unfold electA at he ⊢
      by_cases hm : memP c e.h
      · rw [if_neg (not_not_intro hm)]
      · rw [if_pos hm] at he; exact absurd he (by decide)
    rw [e3] at he
    exact grant (.inl rfl) (by omega) (.inr (.inr (.inr d5))) he (e1.trans e3) e2
  have hn : ¬ mkE e := fun h => by unfold mkE at h; omega
  by_cases d6 : e.d = 6
  · have e1 : opA c e = tickA c e := by unfold opA; rw [if_neg d1, if_neg d2, if_neg d3, if_neg d4, if_neg d5, if_pos d6]
    have e2 : opC c e = tickC c e := by unfold opC; rw [if_neg d1, if_neg d2, if_neg d3, if_neg d4, if_neg d5, if_pos d6]
    rw [e1] at he
    have hT : TickOK c.T e.now := by
      have h : tickE c.T e.now = 0 := he
      unfold tickE at h
      split at h
      · assumption
      · simp at h
    have g1 : tickT c.T e.now = ⟨c.T.last, e.now, c.T.L.filter fun x => decide (e.now < x.u)⟩ := if_pos hT
    obtain ⟨_, _, l3, _, l5⟩ := goneC_len (c := { c with T := tickT c.T e.now }) (tickO c.T e.now)
    rw [e2]
    have hT' : (tickC c e).T = ⟨c.T.last, e.now, c.T.L.filter fun x => decide (e.now < x.u)⟩ := l3.trans g1
    exact ⟨fun _ h => absurd h hn, fun _ => by rw [hT'], keep l5 (by omega) fun x hx _ => by
      rw [hT'] at hx
      exact ⟨x, (List.mem_filter.1 hx).1, rfl, rfl⟩⟩
  by_cases d7 : e.d = 7
  · have e1 : opA c e = renewA c e := by unfold opA; rw [if_neg d1, if_neg d2, if_neg d3, if_neg d4, if_neg d5, if_neg d6, if_pos d7]
    have e2 : opC c e = renewC c e := by unfold opC; rw [if_neg d1, if_neg d2, if_neg d3, if_neg d4, if_neg d5, if_neg d6, if_pos d7]
    rw [e1] at he
    have g1 : (renewC c e).T = ⟨c.T.last, c.T.now, c.T.L.map (upK e.key (c.T.now + c.ttl))⟩ := if_pos he
    rw [e2]
    exact ⟨fun _ h => absurd h hn, fun _ => by rw [g1], keep rfl (by omega) fun x hx _ => by
      rw [g1] at hx
      obtain ⟨y, hy, rfl⟩ := List.mem_map.1 hx
      exact ⟨y, hy, (upK_k y).symm, (upK_e y).symm⟩⟩
  have e1 : opA c e = leaveA c e := by unfold opA; rw [if_neg d1, if_neg d2, if_neg d3, if_neg d4, if_neg d5, if_neg d6, if_neg d7]
  have e2 : opC c e = leaveC c e := by unfold opC; rw [if_neg d1, if_neg d2, if_neg d3, if_neg d4, if_neg d5, if_neg d6, if_neg d7]
  rw [e1] at he
  obtain ⟨_, _, _, h4⟩ := leaveA_0 he
  have g1 : revT c.T e.key = ⟨c.T.last, c.T.now, delK e.key c.T.L⟩ := if_pos h4
  obtain ⟨g2, _, g3⟩ := gone1_T (c := { c with T := revT c.T e.key }) (x := holdX c.T e.key)
  have hT' : (leaveC c e).T = ⟨c.T.last, c.T.now, delK e.key c.T.L⟩ := g2.trans g1
  rw [e2]
  exact ⟨fun _ h => absurd h hn, fun _ => by rw [hT'], keep g3 (by omega) fun x hx _ => by
    rw [hT'] at hx
    exact ⟨x, (List.mem_filter.1 hx).1, rfl, rfl⟩⟩
def MapIs (m : Int → Option SV) (F : Int → Int) : Prop := ∀ z, (m z = none ∧ F z = 0) ∨ m z = some (.v (.int .i64 (F z)))
theorem MapIs.upd {m : Int → Option SV} {F : Int → Int} (h : MapIs m F) (z e : Int) : MapIs (updFn m z (.v (.int .i64 e))) (updF F z e) := fun j => by
  unfold updFn updF
  by_cases hj : j = z
  · rw [if_pos hj, if_pos hj]
    exact .inr rfl
  · rw [if_neg hj, if_neg hj]
    exact h j
theorem own_fenced {n : Nat} {c : Co} (I : Inv n c) {F : Int → Int} (hF : FInv F c) {z : Int} (h0 : 0 ≤ z) (h1 : z < c.zn) (h : 0 ≤ ownH c z) : ownE c z = F z := by
  unfold ownH at h
  unfold ownE
  rw [if_neg (by omega)] at h ⊢
  unfold whoH at h
  unfold whoE
  by_cases ht : HasT c.T z
  · rw [if_pos ht]
    obtain ⟨g1, g2⟩ := hasK_get ht.2
    have e : holdX c.T z = getK c.T.L z := if_pos ht
    rw [e, hF _ g1 (by omega), g2]
  · rw [if_neg ht] at h
    omega
theorem own_span {n : Nat} {c : Co} (I : Inv n c) {s : Spn} (hs : s ∈ c.S) (h : 0 ≤ s.ow) : memP c s.ow ∧ ¬ c.T.last < s.ep := by
  obtain ⟨_, c2, c3⟩ := I.chkAt hs
  rcases I.os _ _ c3 with h1 | ⟨h1, h2⟩
  · have : s.ow = -1 := h1
    omega
  · refine ⟨(I.mem _).2 ⟨h, ?_, h1⟩, by have : s.ep ≤ c.T.last := h2; omega⟩
    rcases c2 with ⟨c2, _⟩ | ⟨_, c2, _⟩ <;> omega
theorem own_wait {n : Nat} {c : Co} (I : Inv n c) {f : Fen} (hf : f ∈ c.W) : memP c f.h ∧ ¬ c.T.last < f.e ∧ ¬ f.z < 0 ∧ ¬ c.zn ≤ f.z ∧ ownH c f.z = -1 := by
  obtain ⟨a1, a2, a3, a4, a5, a6, a7, a8⟩ := I.ws f hf
  refine ⟨(I.mem _).2 ⟨a2, a3, a1⟩, by omega, by omega, by omega, ?_⟩
  unfold ownH
  rw [if_neg (by omega)]
  have h : ¬ HasK c.T.L f.z := fun ⟨x, hx, hk⟩ => (a8 x hx).1 hk
  exact Classical.not_not.1 fun h' => h ((I.who _).1 h')
theorem pw_nth : ∀ {L : List Fen}, L.Pairwise (fun f g => f.z ≠ g.z ∧ f.e ≠ g.e) → ∀ {i j : Nat}, i < j → j < L.length → (nth fen0 L i).z ≠ (nth fen0 L j).z := fun {L} h {i j} hij hj => by
  have := List.pairwise_iff_getElem.1 h i j (by omega) hj hij
  rw [nth_lt (by omega), nth_lt hj]
  exact this.1
def OnceI (w : World) (sA : Nat) (L : List Evt) (adE : Option Addr) (cpE : Nat) : Nat → Act → World → Prop := fun m a w' => ∃ (k : Nat) (c : Co) (uL uS uW : Value) (mm : Int → Option SV) (F : Int → Int), m = L.length - k ∧ k ≤ L.length ∧ Inv k c ∧ FInv F c ∧ MapIs mm F ∧ RdCo (fun x => w.heap.size ≤ x ∧ x ≠ sA ∧ x ≠ sA + 1) w' uL uS uW c ∧ RepX (frame0 w) ⟨[(43, 0, .v (.int .i64 k)), (42, 0, .v (.int .i64 L.length)), (41, 0, .v (.slice adE L.length cpE)), (11, 0, .mp 1 (sA + 1)), (10, 0, .v (.int .i64 c.T.last)), (8, 0, .ptr 0 sA 0), (7, 0, .v (.bool true)), (6, 0, .v (.bool false))], [(sA, true, .cells (coC c uL uS uW) 31), (sA + 1, true, .imap mm)], 0, 0, 214, [], [], []⟩ a w'
def OnceJ (w w10 w11 : World) (sA sE b k : Nat) (L : List Evt) (adE : Option Addr) (cpE : Nat) (c : Co) (uL : Option Addr) (iL : Nat) (uS : Option Addr) (iS : Nat) (uW : Option Addr) (iW : Nat) (d : Co) (dL : Option Addr) (kL : Nat) (dS : Option Addr) (kS : Nat) (dW : Option Addr) (kW : Nat) : Act → World → Prop := fun a' w' => ∃ (sD : Nat) (mm' : Int → Option SV) (F' : Int → Int), w11.heap.size ≤ sD ∧ MapIs mm' F' ∧ FInv F' d ∧ RdCo (fun x => w10.heap.size ≤ x ∧ x < w11.heap.size) w' (.slice dL d.T.L.length kL) (.slice dS d.S.length kS) (.slice dW d.W.length kW) d ∧ RepX (frame0 w) ⟨[(43, 0, .v (.int .i64 k)), (42, 0, .v (.int .i64 L.length)), (41, 0, .v (.slice adE L.length cpE)), (11, 0, .mp 1 (sA + 1)), (10, 0, .v (.int .i64 d.T.last)), (14, 0, .ptr 4 sD 0), (8, 0, .ptr 0 sA 0), (7, 0, .v (.bool true)), (6, 0, .v (.bool false))], [(sA, true, .cells (coC c (.slice uL c.T.L.length iL) (.slice uS c.S.length iS) (.slice uW c.W.length iW)) 31), (sA + 1, true, .imap mm'), (b, false, .any), (sE, true, .any), (sD, true, .cells (coC d (.slice dL d.T.L.length kL) (.slice dS d.S.length kS) (.slice dW d.W.length kW)) 31), (sD + 1, true, .any)], 0, 0, 214, [], [], []⟩ a' w'
theorem meet {P : Program} {Q : Exit → Act → World → Prop} {J : Act → World → Prop} {K : List W} {G : Prop} (h1 : (∀ a w, J a w → post P Q K .normal a w) → G) (h2 : ∀ a w, J a w → post P Q K .normal a w) : G := h1 h2
set_option maxRecDepth 100000 in
set_option maxHeartbeats 64000000 in
theorem once_ok {P : Nat → Prop} (w : World) (z t : Int) (v : Value) (L : List Evt) (hL : RdE P w v L) (hn : L.length ≤ 1000000000000000) : Calls Try.prog 4 (denL [.v (.int .i64 z), .v (.int .i64 t), .v v]).toArray w (Ret w (.v (.bool true))) := by
  obtain ⟨adE, cpE, rfl⟩ := hL.slice
  refine enter (F := frame0 w) Try.func4 rfl [.v (.int .i64 z), .v (.int .i64 t), .v (.slice adE L.length cpE)] [] (by simp [Try.f4]) trivial (keeps0 w) fun a hr => ?_
  refine seg cfg4_ok mixed PanicFree.body 1000 [] [] hr (by first | trivial | exact HpRep.nil | assumption) (by kernel_rfl) fun s_ hs_ => ?_
  simp (maxSteps := 10000000) [SX.vc, SX.stop, SX.contS, SX.contB, SX.contW, SX.contR, SX.contD, SX.sxStep, SX.stepPure, SX.stepNew, SX.stepStore, SX.stepKeep, SX.guardIx, SX.evOp, SX.opd, SX.opds, SX.optOpd, SX.look, SX.putS, SX.gobs, SX.AllP, SX.leave, SX.lookC, SX.lookB, SX.lookT, SX.lookN, SX.findK, SX.evBuiltin, SX.ints, SX.foldI, SX.evBin, SX.evInt, SX.evStr, SX.evEq, SX.arith, SX.evLoad, SX.shapeUp, SX.evFieldAddr, SX.evField, SX.evIndexAddr, SX.evIndex, SX.evFill, SX.evBuild, SX.szs, SX.cellsV, SX.evNew, SX.evStore, SX.spliceL, SX.SV.cells, SX.evConv, SX.evSlice, SX.bnd, SX.evNil, SX.evUn, SX.evPick, SX.pickOpd, SX.popTo, SX.cnd, SX.env0, SX.TD.isAgg, SX.TD.isIface, SX.tails, SX.NotAgg, SX.evLookup, SX.evConvH, SX.evPtrEq, SX.isCells, SX.thaw, SX.frz, SX.fixB, SX.rootIx, SX.Froz, SX.frzStep, SX.fork, Go.Value.cells, Go.undef, cfg4, Try.f4]
  refine ⟨by (unfold SX.Ob; first | trivial | omega | ((try simp only [SX.inK]); (try simp [SX.den, SX.IsU8, SX.AllP, *]); (try omega))), ?_⟩
  intro a1 w1 hr1 _
  refine post_call 7 [] hr1 (by first | exact wanted_none rfl | exact wanted_zero (hr1.env.same rfl rfl rfl rfl) rfl (by simp) | exact wanted_zero (hr1.env.same rfl rfl rfl rfl) rfl (by simp [*])) rfl (callable 7 Try.func7) (live_ok w1) ?_
  rintro e2 w2 ⟨rfl, hb2⟩
  refine ⟨_, rfl, ?_⟩
  have h2 := hr1.ret hb2 27 (.v (.bool true)) rfl _ (hr1.all.below hb2) (by simp) rfl
  refine seg cfg4_ok mixed PanicFree.body 1000 [] [] h2 (by first | trivial | exact HpRep.nil | assumption) (by kernel_rfl) fun s_ hs_ => ?_
  simp (maxSteps := 10000000) [SX.vc, SX.stop, SX.contS, SX.contB, SX.contW, SX.contR, SX.contD, SX.sxStep, SX.stepPure, SX.stepNew, SX.stepStore, SX.stepKeep, SX.guardIx, SX.evOp, SX.opd, SX.opds, SX.optOpd, SX.look, SX.putS, SX.gobs, SX.AllP, SX.leave, SX.lookC, SX.lookB, SX.lookT, SX.lookN, SX.findK, SX.evBuiltin, SX.ints, SX.foldI, SX.evBin, SX.evInt, SX.evStr, SX.evEq, SX.arith, SX.evLoad, SX.shapeUp, SX.evFieldAddr, SX.evField, SX.evIndexAddr, SX.evIndex, SX.evFill, SX.evBuild, SX.szs, SX.cellsV, SX.evNew, SX.evStore, SX.spliceL, SX.SV.cells, SX.evConv, SX.evSlice, SX.bnd, SX.evNil, SX.evUn, SX.evPick, SX.pickOpd, SX.popTo, SX.cnd, SX.env0, SX.TD.isAgg, SX.TD.isIface, SX.tails, SX.NotAgg, SX.evLookup, SX.evConvH, SX.evPtrEq, SX.isCells, SX.thaw, SX.frz, SX.fixB, SX.rootIx, SX.Froz, SX.frzStep, SX.fork, Go.Value.cells, Go.undef, cfg4]
  refine ⟨by (unfold SX.Ob; first | trivial | omega | ((try simp only [SX.inK]); (try simp [SX.den, SX.IsU8, SX.AllP, *]); (try omega))), ?_⟩
  intro a3 w3 hr3 _
  refine post_call 8 [.v (.slice adE L.length cpE)] hr3 (by first | exact wanted_none rfl | exact wanted_zero (hr3.env.same rfl rfl rfl rfl) rfl (by simp) | exact wanted_zero (hr3.env.same rfl rfl rfl rfl) rfl (by simp [*])) rfl (callable 8 Try.func8) (few_ok w3 _ L (hL.below hr3.keeps.toBelow) hn) ?_
  rintro e4 w4 ⟨rfl, hb4⟩
  refine ⟨_, rfl, ?_⟩
  have h4 := hr3.ret hb4 29 (.v (.bool (decide (FewP L)))) rfl _ (hr3.all.below hb4) (by simp) rfl
  by_cases hf : FewP L
  rotate_left
  · have hfd : decide (FewP L) = false := decide_eq_false hf
    refine seg cfg4_ok mixed PanicFree.body 1000 [true] [] h4 (by first | trivial | exact HpRep.nil | assumption) (by kernel_rfl) fun s_ hs_ => ?_
    simp (maxSteps := 10000000) [SX.vc, SX.stop, SX.contS, SX.contB, SX.contW, SX.contR, SX.contD, SX.sxStep, SX.stepPure, SX.stepNew, SX.stepStore, SX.stepKeep, SX.guardIx, SX.evOp, SX.opd, SX.opds, SX.optOpd, SX.look, SX.putS, SX.gobs, SX.AllP, SX.leave, SX.lookC, SX.lookB, SX.lookT, SX.lookN, SX.findK, SX.evBuiltin, SX.ints, SX.foldI, SX.evBin, SX.evInt, SX.evStr, SX.evEq, SX.arith, SX.evLoad, SX.shapeUp, SX.evFieldAddr, SX.evField, SX.evIndexAddr, SX.evIndex, SX.evFill, SX.evBuild, SX.szs, SX.cellsV, SX.evNew, SX.evStore, SX.spliceL, SX.SV.cells, SX.evConv, SX.evSlice, SX.bnd, SX.evNil, SX.evUn, SX.evPick, SX.pickOpd, SX.popTo, SX.cnd, SX.env0, SX.TD.isAgg, SX.TD.isIface, SX.tails, SX.NotAgg, SX.evLookup, SX.evConvH, SX.evPtrEq, SX.isCells, SX.thaw, SX.frz, SX.fixB, SX.rootIx, SX.Froz, SX.frzStep, SX.fork, Go.Value.cells, Go.undef, cfg4, hfd]
    refine ⟨by (unfold SX.Ob; first | trivial | omega | ((try simp only [SX.inK]); (try simp [SX.den, SX.IsU8, SX.AllP, *]); (try omega))), ?_⟩
    intro a5 w5 hr5 _
    exact post_retn (end1 hr5 rfl rfl ⟨rfl, hr5.keeps.toBelow⟩).1
  have hfd : decide (FewP L) = true := decide_eq_true hf
  obtain ⟨hf1, hf2⟩ := hf
  refine seg cfg4_ok mixed PanicFree.body 1000 [false] [] h4 (by first | trivial | exact HpRep.nil | assumption) (by kernel_rfl) fun s_ hs_ => ?_
  simp (maxSteps := 10000000) [SX.vc, SX.stop, SX.contS, SX.contB, SX.contW, SX.contR, SX.contD, SX.sxStep, SX.stepPure, SX.stepNew, SX.stepStore, SX.stepKeep, SX.guardIx, SX.evOp, SX.opd, SX.opds, SX.optOpd, SX.look, SX.putS, SX.gobs, SX.AllP, SX.leave, SX.lookC, SX.lookB, SX.lookT, SX.lookN, SX.findK, SX.evBuiltin, SX.ints, SX.foldI, SX.evBin, SX.evInt, SX.evStr, SX.evEq, SX.arith, SX.evLoad, SX.shapeUp, SX.evFieldAddr, SX.evField, SX.evIndexAddr, SX.evIndex, SX.evFill, SX.evBuild, SX.szs, SX.cellsV, SX.evNew, SX.evStore, SX.spliceL, SX.SV.cells, SX.evConv, SX.evSlice, SX.bnd, SX.evNil, SX.evUn, SX.evPick, SX.pickOpd, SX.popTo, SX.cnd, SX.env0, SX.TD.isAgg, SX.TD.isIface, SX.tails, SX.NotAgg, SX.evLookup, SX.evConvH, SX.evPtrEq, SX.isCells, SX.thaw, SX.frz, SX.fixB, SX.rootIx, SX.Froz, SX.frzStep, SX.fork, Go.Value.cells, Go.undef, cfg4, hfd]
  refine ⟨by (unfold SX.Ob; first | trivial | omega | ((try simp only [SX.inK]); (try simp [SX.den, SX.IsU8, SX.AllP, *]); (try omega))), ?_⟩
  intro a5 w5 hr5 _
  refine post_call 9 [.v (.int .i64 z), .v (.int .i64 t)] hr5 (by first | exact wanted_none rfl | exact wanted_zero (hr5.env.same rfl rfl rfl rfl) rfl (by simp) | exact wanted_zero (hr5.env.same rfl rfl rfl rfl) rfl (by simp [*])) rfl (callable 9 Try.func9) (begin_ok w5 z t) ?_
  rintro e6 w6 ⟨vS, rfl, hS6, hb6⟩
  refine ⟨_, rfl, ?_⟩
  have h6 := hr5.ret hb6 35 (.tu [.ag (coC (co0 (bgz z) 60 (bgt t)) (.slice none 0 0) vS (.slice none 0 0)), .v (.bool true)]) rfl _ (hr5.all.below hb6) (by simp) rfl
  obtain ⟨aS, cS, rfl⟩ := hS6.slice
  refine seg cfg4_ok mixed PanicFree.body 1000 [false] [] h6.rebase (by first | trivial | exact HpRep.nil | assumption) (by kernel_rfl) fun sA hsA => ?_
  simp (maxSteps := 10000000) [SX.vc, SX.stop, SX.contS, SX.contB, SX.contW, SX.contR, SX.contD, SX.sxStep, SX.stepPure, SX.stepNew, SX.stepStore, SX.stepKeep, SX.guardIx, SX.evOp, SX.opd, SX.opds, SX.optOpd, SX.look, SX.putS, SX.gobs, SX.AllP, SX.leave, SX.lookC, SX.lookB, SX.lookT, SX.lookN, SX.findK, SX.evBuiltin, SX.ints, SX.foldI, SX.evBin, SX.evInt, SX.evStr, SX.evEq, SX.arith, SX.evLoad, SX.shapeUp, SX.evFieldAddr, SX.evField, SX.evIndexAddr, SX.evIndex, SX.evFill, SX.evBuild, SX.szs, SX.cellsV, SX.evNew, SX.evStore, SX.spliceL, SX.SV.cells, SX.evConv, SX.evSlice, SX.bnd, SX.evNil, SX.evUn, SX.evPick, SX.pickOpd, SX.popTo, SX.cnd, SX.env0, SX.TD.isAgg, SX.TD.isIface, SX.tails, SX.NotAgg, SX.evLookup, SX.evConvH, SX.evPtrEq, SX.isCells, SX.thaw, SX.frz, SX.fixB, SX.rootIx, SX.Froz, SX.frzStep, SX.fork, Go.Value.cells, Go.undef, cfg4, coC, co0]
  refine ⟨by (unfold SX.Ob; first | trivial | omega | ((try simp only [SX.inK]); (try simp [SX.den, SX.IsU8, SX.AllP, *]); (try omega))), ?_⟩
  intro a7 w7 hr7' _
  have hr7 := h6.unbase hr7'
  have z5 : w.heap.size ≤ w5.heap.size := hr5.keeps.size
  have z6 : w5.heap.size ≤ w6.heap.size := hb6.size
  have z7 : w6.heap.size ≤ w7.heap.size := hr7'.keeps.size
  have q7 := hpLt hr7.all
  simp at q7
  have zz := bgz_pos z
  have tt := bgt_pos t
  have I0 := inv_0 zz.1 zz.2 tt.1 tt.2
  have hS7 : RdP (fun x => w.heap.size ≤ x ∧ x ≠ sA ∧ x ≠ sA + 1) w7 (.slice aS 1 cS) [⟨0, 60, -1, 0⟩] := (hS6.mono (P' := fun x => w5.heap.size ≤ x ∧ x < w6.heap.size) fun x h0 h => ⟨h, h0⟩).keep hr7'.keeps (by simp [frameAt, mutB]) |>.mono fun x h0 h => ⟨by omega, by omega, by omega⟩
  refine post_loop (OnceI w sA L adE cpE) L.length ⟨0, co0 (bgz z) 60 (bgt t), _, _, _, _, fun _ => 0, rfl, by omega, I0, fun x hx => (by cases hx), fun z => .inl ⟨rfl, rfl⟩, ⟨OwS.nil.rd, hS7, OwS.nil.rd⟩, hr7.re (by simp [envTo, SX.look, co0]) hr7.all rfl rfl⟩ ?_
  rintro m a8 w8 ⟨k, c, uL, uS, uW, mm, F, rfl, hk, I, hF, hmm, hC8, hr8⟩
  have z8 : w.heap.size ≤ w8.heap.size := hr8.keeps.size
  have q8 := hpLt hr8.all
  simp at q8
  obtain ⟨uL, iL, rfl⟩ := hC8.1.slice
  obtain ⟨uS, iS, rfl⟩ := hC8.2.1.slice
  obtain ⟨uW, iW, rfl⟩ := hC8.2.2.slice
  by_cases hlt : k < L.length
  rotate_left
  · refine seg cfg4_ok mixed PanicFree.body 1000 [false] [] hr8 (by first | trivial | exact HpRep.nil | assumption) (by kernel_rfl) fun s_ hs_ => ?_
    simp (maxSteps := 10000000) [SX.vc, SX.stop, SX.contS, SX.contB, SX.contW, SX.contR, SX.contD, SX.sxStep, SX.stepPure, SX.stepNew, SX.stepStore, SX.stepKeep, SX.guardIx, SX.evOp, SX.opd, SX.opds, SX.optOpd, SX.look, SX.putS, SX.gobs, SX.AllP, SX.leave, SX.lookC, SX.lookB, SX.lookT, SX.lookN, SX.findK, SX.evBuiltin, SX.ints, SX.foldI, SX.evBin, SX.evInt, SX.evStr, SX.evEq, SX.arith, SX.evLoad, SX.shapeUp, SX.evFieldAddr, SX.evField, SX.evIndexAddr, SX.evIndex, SX.evFill, SX.evBuild, SX.szs, SX.cellsV, SX.evNew, SX.evStore, SX.spliceL, SX.SV.cells, SX.evConv, SX.evSlice, SX.bnd, SX.evNil, SX.evUn, SX.evPick, SX.pickOpd, SX.popTo, SX.cnd, SX.env0, SX.TD.isAgg, SX.TD.isIface, SX.tails, SX.NotAgg, SX.evLookup, SX.evConvH, SX.evPtrEq, SX.isCells, SX.thaw, SX.frz, SX.fixB, SX.rootIx, SX.Froz, SX.frzStep, SX.fork, Go.Value.cells, Go.undef, cfg4, hlt]
    refine ⟨by (unfold SX.Ob; first | trivial | omega | ((try simp only [SX.inK]); (try simp [SX.den, SX.IsU8, SX.AllP, *]); (try omega))), ?_⟩
    intro a9 w9 hr9 _
    exact post_retn (end1 hr9 rfl rfl ⟨rfl, hr9.keeps.toBelow⟩).1
  obtain ⟨b, o0, cap, u, fz, hP, hv, hrep⟩ := hL.opn hlt
  simp only [Value.slice.injEq] at hv
  obtain ⟨hv1, _, hv2⟩ := hv
  have hbw := SO.rep_lt hrep
  have hrep8 := SO.rep_same hrep (hr8.keeps.toBelow.block _ hbw)
  obtain ⟨e, he⟩ : ∃ e, nth evt0 L k = e := ⟨_, rfl⟩
  have hnow : e.now ≤ 1152921504606846976 := hf1 e (he ▸ nth_mem hlt)
  have n1 := I.nL
  have n2 := I.nS
  have n3 := I.nW
  have hkn : k ≤ 100 := by omega
  have h9 := (hr8.top 41 (.sl 2 b o0 0 L.length cpE 8) rfl (by simp [den, hv1])).see [(sA, true, .cells (coC c (.slice uL c.T.L.length iL) (.slice uS c.S.length iS) (.slice uW c.W.length iW)) 31), (sA + 1, true, .imap mm), (b, false, .arr o0 L.length (fun j => evC (nth evt0 L j)) 8 u fz)] ⟨⟨hr8.all.1.1, hr8.all.1.2.1, by simp; omega⟩, ⟨hr8.all.2.1.1, hr8.all.2.1.2.1, by simp; omega⟩, ⟨hrep8, by simp, by simp⟩, trivial⟩
  refine seg cfg4_ok mixed PanicFree.body 1000 [true] [] h9.rebase (by first | trivial | exact HpRep.nil | assumption) (by kernel_rfl) fun sE hsE => ?_
  simp (maxSteps := 10000000) [SX.vc, SX.stop, SX.contS, SX.contB, SX.contW, SX.contR, SX.contD, SX.sxStep, SX.stepPure, SX.stepNew, SX.stepStore, SX.stepKeep, SX.guardIx, SX.evOp, SX.opd, SX.opds, SX.optOpd, SX.look, SX.putS, SX.gobs, SX.AllP, SX.leave, SX.lookC, SX.lookB, SX.lookT, SX.lookN, SX.findK, SX.evBuiltin, SX.ints, SX.foldI, SX.evBin, SX.evInt, SX.evStr, SX.evEq, SX.arith, SX.evLoad, SX.shapeUp, SX.evFieldAddr, SX.evField, SX.evIndexAddr, SX.evIndex, SX.evFill, SX.evBuild, SX.szs, SX.cellsV, SX.evNew, SX.evStore, SX.spliceL, SX.SV.cells, SX.evConv, SX.evSlice, SX.bnd, SX.evNil, SX.evUn, SX.evPick, SX.pickOpd, SX.popTo, SX.cnd, SX.env0, SX.TD.isAgg, SX.TD.isIface, SX.tails, SX.NotAgg, SX.evLookup, SX.evConvH, SX.evPtrEq, SX.isCells, SX.thaw, SX.frz, SX.fixB, SX.rootIx, SX.Froz, SX.frzStep, SX.fork, Go.Value.cells, Go.undef, cfg4, evC, he, coC]
  refine ⟨by (unfold SX.Ob; first | trivial | omega | ((try simp only [SX.inK]); (try simp [SX.den, SX.IsU8, SX.AllP, *]); (try omega))), ?_⟩
  intro a10 w10 hr10' _
  have hr10 := h9.unbase hr10'
  have z10 : w8.heap.size ≤ w10.heap.size := hr10'.keeps.size
  have q10 := hpLt hr10.all
  simp at q10
  have hC10 : RdCo (fun x => (w.heap.size ≤ x ∧ x ≠ sA ∧ x ≠ sA + 1) ∧ x < w8.heap.size) w10 (.slice uL c.T.L.length iL) (.slice uS c.S.length iS) (.slice uW c.W.length iW) c := (hC8.mono fun x h0 h => ⟨h, h0⟩).keepM hr10'.keeps (by simp [frameAt, mutB])
  obtain ⟨A, hA⟩ : ∃ A, doA c e = A := ⟨_, rfl⟩
  obtain ⟨d, hd⟩ : ∃ d, doC c e = d := ⟨_, rfl⟩
  have Id : Inv (k + 1) d := hd ▸ inv_do I hnow
  obtain ⟨s1, s2, s3⟩ := once_step I hF hnow
  have hdo := do_ok w10 c e _ _ _ hC10 (I.pre (by omega) _)
  unfold DoR at hdo
  rw [hA] at s1 s2 hdo
  rw [hd] at s1 s2 s3 hdo
  have m1 := Id.nL
  have m2 := Id.nS
  have m3 := Id.nW
  refine post_call 12 [.ag (coC c (.slice uL c.T.L.length iL) (.slice uS c.S.length iS) (.slice uW c.W.length iW)), .ag (evC e)] hr10 (wanted_none rfl) rfl (callable 12 Try.func12) hdo ?_
  rintro e11 w11 ⟨vL, vS, vW, va, rfl, hD11, hv11, hb11⟩
  refine ⟨_, rfl, ?_⟩
  obtain ⟨dL, kL, rfl⟩ := hD11.1.slice
  obtain ⟨dS, kS, rfl⟩ := hD11.2.1.slice
  obtain ⟨dW, kW, rfl⟩ := hD11.2.2.slice
  obtain ⟨av, cv, rfl⟩ := hv11.slice
  have z11 : w10.heap.size ≤ w11.heap.size := hb11.size
  have hr11 := hr10.ret hb11 50 (.tu [.ag (coC d (.slice dL d.T.L.length kL) (.slice dS d.S.length kS) (.slice dW d.W.length kW)), .ag (ansC A (.slice av A.L.length cv))]) rfl _ (hr10.all.below hb11) (by simp) rfl
  have hC11 := hC10.below' hb11
  have hD11' : RdCo (fun x => w10.heap.size ≤ x ∧ x < w11.heap.size) w11 (.slice dL d.T.L.length kL) (.slice dS d.S.length kS) (.slice dW d.W.length kW) d := hD11.mono fun x h0 h => ⟨h, h0⟩
  apply meet (P := Try.prog) (J := OnceJ w w10 w11 sA sE b k L adE cpE c uL iL uS iS uW iW d dL kL dS kS dW kW)
  case h1 =>
    intro fin
    by_cases her : A.er = 0
    rotate_left
    · have hdc : d = c := by
        rw [← hd]
        unfold doC
        rw [hA, if_neg her]
      have hsm := fun w' (h1 : RdCo (fun x => (w.heap.size ≤ x ∧ x ≠ sA ∧ x ≠ sA + 1) ∧ x < w8.heap.size) w' (.slice uL c.T.L.length iL) (.slice uS c.S.length iS) (.slice uW c.W.length iW) c) (h2 : RdCo (fun x => w10.heap.size ≤ x ∧ x < w11.heap.size) w' (.slice dL d.T.L.length kL) (.slice dS d.S.length kS) (.slice dW d.W.length kW) d) => same_ok w' c d _ _ _ _ _ _ h1 h2 (by omega) (by omega) (by omega)
      rw [decide_eq_true hdc.symm] at hsm
      refine seg cfg4_ok mixed PanicFree.body 1000 [] [(56, true)] hr11.rebase (by first | trivial | exact HpRep.nil | assumption) (by kernel_rfl) fun sD hsD => ?_
      simp (maxSteps := 10000000) [SX.vc, SX.stop, SX.contS, SX.contB, SX.contW, SX.contR, SX.contD, SX.sxStep, SX.stepPure, SX.stepNew, SX.stepStore, SX.stepKeep, SX.guardIx, SX.evOp, SX.opd, SX.opds, SX.optOpd, SX.look, SX.putS, SX.gobs, SX.AllP, SX.leave, SX.lookC, SX.lookB, SX.lookT, SX.lookN, SX.findK, SX.evBuiltin, SX.ints, SX.foldI, SX.evBin, SX.evInt, SX.evStr, SX.evEq, SX.arith, SX.evLoad, SX.shapeUp, SX.evFieldAddr, SX.evField, SX.evIndexAddr, SX.evIndex, SX.evFill, SX.evBuild, SX.szs, SX.cellsV, SX.evNew, SX.evStore, SX.spliceL, SX.SV.cells, SX.evConv, SX.evSlice, SX.bnd, SX.evNil, SX.evUn, SX.evPick, SX.pickOpd, SX.popTo, SX.cnd, SX.env0, SX.TD.isAgg, SX.TD.isIface, SX.tails, SX.NotAgg, SX.evLookup, SX.evConvH, SX.evPtrEq, SX.isCells, SX.thaw, SX.frz, SX.fixB, SX.rootIx, SX.Froz, SX.frzStep, SX.fork, Go.Value.cells, Go.undef, cfg4, coC, ansC, her]
      refine ⟨by (unfold SX.Ob; first | trivial | omega | ((try simp only [SX.inK]); (try simp [SX.den, SX.IsU8, SX.AllP, *]); (try omega))), ?_⟩
      intro a12 w12 hr12' _
      have hr12 := hr11.unbase hr12'
      have hC12 := hC11.keepM hr12'.keeps (by simp [frameAt, mutB]; omega)
      have hD12 := hD11'.keepM hr12'.keeps (by simp [frameAt, mutB]; omega)
      have q12 := hpLt hr12.all
      simp at q12
      have hsD : w11.heap.size ≤ sD := by omega
      have hN : nxF F c e = F := if_neg fun h => her (hA ▸ h.1)
      have hlast : d.T.last = c.T.last := s2 fun h => her h.1
      refine post_call 15 [.ag (coC c (.slice uL c.T.L.length iL) (.slice uS c.S.length iS) (.slice uW c.W.length iW)), .ag (coC d (.slice dL d.T.L.length kL) (.slice dS d.S.length kS) (.slice dW d.W.length kW))] hr12 (wanted_zero (hr12.env.same rfl rfl rfl rfl) rfl (fun p hp => by simp at hp; exact hp.2 fun _ => her)) rfl (callable 15 Try.func15) (hsm w12 hC12 hD12) ?_
      rintro e13 w13 ⟨rfl, hb13⟩
      refine ⟨_, rfl, ?_⟩
      have h13 := hr12.ret hb13 59 (.v (.bool true)) rfl _ (hr12.all.below hb13) (by simp) rfl
      have hD13 := hD12.below' hb13
      refine seg cfg4_ok mixed PanicFree.body 1000 [false] [(56, true)] h13.rebase (by first | trivial | exact HpRep.nil | assumption) (by kernel_rfl) fun sG hsG => ?_
      simp (maxSteps := 10000000) [SX.vc, SX.stop, SX.contS, SX.contB, SX.contW, SX.contR, SX.contD, SX.sxStep, SX.stepPure, SX.stepNew, SX.stepStore, SX.stepKeep, SX.guardIx, SX.evOp, SX.opd, SX.opds, SX.optOpd, SX.look, SX.putS, SX.gobs, SX.AllP, SX.leave, SX.lookC, SX.lookB, SX.lookT, SX.lookN, SX.findK, SX.evBuiltin, SX.ints, SX.foldI, SX.evBin, SX.evInt, SX.evStr, SX.evEq, SX.arith, SX.evLoad, SX.shapeUp, SX.evFieldAddr, SX.evField, SX.evIndexAddr, SX.evIndex, SX.evFill, SX.evBuild, SX.szs, SX.cellsV, SX.evNew, SX.evStore, SX.spliceL, SX.SV.cells, SX.evConv, SX.evSlice, SX.bnd, SX.evNil, SX.evUn, SX.evPick, SX.pickOpd, SX.popTo, SX.cnd, SX.env0, SX.TD.isAgg, SX.TD.isIface, SX.tails, SX.NotAgg, SX.evLookup, SX.evConvH, SX.evPtrEq, SX.isCells, SX.thaw, SX.frz, SX.fixB, SX.rootIx, SX.Froz, SX.frzStep, SX.fork, Go.Value.cells, Go.undef, cfg4, her]
      refine ⟨by (unfold SX.Ob; first | trivial | omega | ((try simp only [SX.inK]); (try simp [SX.den, SX.IsU8, SX.AllP, *]); (try omega))), ?_⟩
      intro a14 w14 hr14' ht14
      have hr14 := h13.unbase hr14'
      have hD14 := hD13.keepM hr14'.keeps (by simp [frameAt, mutB]; omega)
      refine post_cut (OnceJ w w10 w11 sA sE b k L adE cpE c uL iL uS iS uW iW d dL kL dS kS dW kW) 1 rfl ?_ fun a_ w_ hJ => fin a_ w_ hJ
      refine seg cfg4_ok mixed PanicFree.body 1000 [false] [] hr14.rebase (by first | trivial | exact HpRep.nil | assumption) (by kernel_rfl) fun s_ hs_ => ?_
      simp (maxSteps := 10000000) [SX.vc, SX.stop, SX.contS, SX.contB, SX.contW, SX.contR, SX.contD, SX.sxStep, SX.stepPure, SX.stepNew, SX.stepStore, SX.stepKeep, SX.guardIx, SX.evOp, SX.opd, SX.opds, SX.optOpd, SX.look, SX.putS, SX.gobs, SX.AllP, SX.leave, SX.lookC, SX.lookB, SX.lookT, SX.lookN, SX.findK, SX.evBuiltin, SX.ints, SX.foldI, SX.evBin, SX.evInt, SX.evStr, SX.evEq, SX.arith, SX.evLoad, SX.shapeUp, SX.evFieldAddr, SX.evField, SX.evIndexAddr, SX.evIndex, SX.evFill, SX.evBuild, SX.szs, SX.cellsV, SX.evNew, SX.evStore, SX.spliceL, SX.SV.cells, SX.evConv, SX.evSlice, SX.bnd, SX.evNil, SX.evUn, SX.evPick, SX.pickOpd, SX.popTo, SX.cnd, SX.env0, SX.TD.isAgg, SX.TD.isIface, SX.tails, SX.NotAgg, SX.evLookup, SX.evConvH, SX.evPtrEq, SX.isCells, SX.thaw, SX.frz, SX.fixB, SX.rootIx, SX.Froz, SX.frzStep, SX.fork, Go.Value.cells, Go.undef, cfg4, her]
      refine ⟨by (unfold SX.Ob; first | trivial | omega | ((try simp only [SX.inK]); (try simp [SX.den, SX.IsU8, SX.AllP, *]); (try omega))), ?_⟩
      intro a15 w15 hr15' _
      have hr15 := hr14.unbase hr15'
      have hD15 := hD14.keepM hr15'.keeps (by simp [frameAt, mutB]; omega)
      exact post_inv ⟨sD, mm, F, by omega, hmm, by rw [← hN]; exact s3, hD15, (hr15.see [(sA, true, .cells (coC c (.slice uL c.T.L.length iL) (.slice uS c.S.length iS) (.slice uW c.W.length iW)) 31), (sA + 1, true, .imap mm), (b, false, .any), (sE, true, .any), (sD, true, .cells (coC d (.slice dL d.T.L.length kL) (.slice dS d.S.length kS) (.slice dW d.W.length kW)) 31), (sD + 1, true, .any)] ⟨⟨hr15.all.1.1, hr15.all.1.2.1, by simp; omega⟩, ⟨hr15.all.2.1.1, hr15.all.2.1.2.1, by simp; omega⟩, ⟨SO.rep_lt hr15.all.2.2.1.1, by simp, by simp; omega⟩, ⟨SO.rep_lt hr15.all.2.2.2.1.1, hr15.all.2.2.2.1.2.1, by simp; omega⟩, ⟨hr15.all.2.2.2.2.1.1, hr15.all.2.2.2.2.1.2.1, by simp⟩, ⟨SO.rep_lt hr15.all.2.2.2.2.2.1.1, hr15.all.2.2.2.2.2.1.2.1, by simp⟩, trivial⟩).re (by simp [envTo, SX.look, den, hlast, hv1]) (hr15.see [(sA, true, .cells (coC c (.slice uL c.T.L.length iL) (.slice uS c.S.length iS) (.slice uW c.W.length iW)) 31), (sA + 1, true, .imap mm), (b, false, .any), (sE, true, .any), (sD, true, .cells (coC d (.slice dL d.T.L.length kL) (.slice dS d.S.length kS) (.slice dW d.W.length kW)) 31), (sD + 1, true, .any)] ⟨⟨hr15.all.1.1, hr15.all.1.2.1, by simp; omega⟩, ⟨hr15.all.2.1.1, hr15.all.2.1.2.1, by simp; omega⟩, ⟨SO.rep_lt hr15.all.2.2.1.1, by simp, by simp; omega⟩, ⟨SO.rep_lt hr15.all.2.2.2.1.1, hr15.all.2.2.2.1.2.1, by simp; omega⟩, ⟨hr15.all.2.2.2.2.1.1, hr15.all.2.2.2.2.1.2.1, by simp⟩, ⟨SO.rep_lt hr15.all.2.2.2.2.2.1.1, hr15.all.2.2.2.2.2.1.2.1, by simp⟩, trivial⟩).all rfl rfl⟩
    · refine seg cfg4_ok mixed PanicFree.body 1000 [false] [(56, false)] hr11.rebase (by first | trivial | exact HpRep.nil | assumption) (by kernel_rfl) fun sD hsD => ?_
      simp (maxSteps := 10000000) [SX.vc, SX.stop, SX.contS, SX.contB, SX.contW, SX.contR, SX.contD, SX.sxStep, SX.stepPure, SX.stepNew, SX.stepStore, SX.stepKeep, SX.guardIx, SX.evOp, SX.opd, SX.opds, SX.optOpd, SX.look, SX.putS, SX.gobs, SX.AllP, SX.leave, SX.lookC, SX.lookB, SX.lookT, SX.lookN, SX.findK, SX.evBuiltin, SX.ints, SX.foldI, SX.evBin, SX.evInt, SX.evStr, SX.evEq, SX.arith, SX.evLoad, SX.shapeUp, SX.evFieldAddr, SX.evField, SX.evIndexAddr, SX.evIndex, SX.evFill, SX.evBuild, SX.szs, SX.cellsV, SX.evNew, SX.evStore, SX.spliceL, SX.SV.cells, SX.evConv, SX.evSlice, SX.bnd, SX.evNil, SX.evUn, SX.evPick, SX.pickOpd, SX.popTo, SX.cnd, SX.env0, SX.TD.isAgg, SX.TD.isIface, SX.tails, SX.NotAgg, SX.evLookup, SX.evConvH, SX.evPtrEq, SX.isCells, SX.thaw, SX.frz, SX.fixB, SX.rootIx, SX.Froz, SX.frzStep, SX.fork, Go.Value.cells, Go.undef, cfg4, coC, ansC, her]
      refine ⟨by (unfold SX.Ob; first | trivial | omega | ((try simp only [SX.inK]); (try simp [SX.den, SX.IsU8, SX.AllP, *]); (try omega))), ?_⟩
      intro a12 w12 hr12' _
      have hr12 := hr11.unbase hr12'
      have hD12 := hD11'.keepM hr12'.keeps (by simp [frameAt, mutB]; omega)
      have q12 := hpLt hr12.all
      simp at q12
      have hsD : w11.heap.size ≤ sD := by omega
      refine post_cut (OnceJ w w10 w11 sA sE b k L adE cpE c uL iL uS iS uW iW d dL kL dS kS dW kW) 1 rfl ?_ fun a_ w_ hJ => fin a_ w_ hJ
      by_cases hmk : mkE e
      · obtain ⟨hep, hl⟩ := s1 her hmk
        have hle : ¬ A.ep ≤ c.T.last := by omega
        have hne : A.ep = d.T.last := hep.trans hl.symm
        have hle' : ¬ d.T.last ≤ c.T.last := by omega
        have hd3 : e.d ≠ 3 := fun h => by unfold mkE at hmk; omega
        have hN : nxF F c e = F := if_neg fun h => hd3 h.2
        have hF' : FInv F d := by rw [← hN]; exact s3
        rcases hmk with hd | hd | hd | hd
        · refine seg cfg4_ok mixed PanicFree.body 1000 [true, true, true, false] [(76, false)] hr12.rebase (by first | trivial | exact HpRep.nil | assumption) (by kernel_rfl) fun s_ hs_ => ?_
          simp (maxSteps := 10000000) [SX.vc, SX.stop, SX.contS, SX.contB, SX.contW, SX.contR, SX.contD, SX.sxStep, SX.stepPure, SX.stepNew, SX.stepStore, SX.stepKeep, SX.guardIx, SX.evOp, SX.opd, SX.opds, SX.optOpd, SX.look, SX.putS, SX.gobs, SX.AllP, SX.leave, SX.lookC, SX.lookB, SX.lookT, SX.lookN, SX.findK, SX.evBuiltin, SX.ints, SX.foldI, SX.evBin, SX.evInt, SX.evStr, SX.evEq, SX.arith, SX.evLoad, SX.shapeUp, SX.evFieldAddr, SX.evField, SX.evIndexAddr, SX.evIndex, SX.evFill, SX.evBuild, SX.szs, SX.cellsV, SX.evNew, SX.evStore, SX.spliceL, SX.SV.cells, SX.evConv, SX.evSlice, SX.bnd, SX.evNil, SX.evUn, SX.evPick, SX.pickOpd, SX.popTo, SX.cnd, SX.env0, SX.TD.isAgg, SX.TD.isIface, SX.tails, SX.NotAgg, SX.evLookup, SX.evConvH, SX.evPtrEq, SX.isCells, SX.thaw, SX.frz, SX.fixB, SX.rootIx, SX.Froz, SX.frzStep, SX.fork, Go.Value.cells, Go.undef, cfg4, her, hd, hne, hle']
          refine ⟨by (unfold SX.Ob; first | trivial | omega | ((try simp only [SX.inK]); (try simp [SX.den, SX.IsU8, SX.AllP, *]); (try omega))), ?_⟩
          intro a15 w15 hr15' _
          have hr15 := hr12.unbase hr15'
          have hD15 := hD12.keepM hr15'.keeps (by simp [frameAt, mutB]; omega)
          have hsee := (hr15.see [(sA, true, .cells (coC c (.slice uL c.T.L.length iL) (.slice uS c.S.length iS) (.slice uW c.W.length iW)) 31), (sA + 1, true, .imap mm), (b, false, .any), (sE, true, .any), (sD, true, .cells (coC d (.slice dL d.T.L.length kL) (.slice dS d.S.length kS) (.slice dW d.W.length kW)) 31), (sD + 1, true, .any)] ⟨⟨hr15.all.1.1, hr15.all.1.2.1, by simp; omega⟩, ⟨hr15.all.2.1.1, hr15.all.2.1.2.1, by simp; omega⟩, ⟨SO.rep_lt hr15.all.2.2.1.1, by simp, by simp; omega⟩, ⟨SO.rep_lt hr15.all.2.2.2.1.1, hr15.all.2.2.2.1.2.1, by simp; omega⟩, ⟨hr15.all.2.2.2.2.1.1, hr15.all.2.2.2.2.1.2.1, by simp⟩, ⟨SO.rep_lt hr15.all.2.2.2.2.2.1.1, hr15.all.2.2.2.2.2.1.2.1, by simp⟩, trivial⟩)
          exact post_inv ⟨sD, mm, F, by omega, hmm, hF', hD15, hsee.re (by simp [envTo, SX.look, den, hne, hv1]) hsee.all rfl rfl⟩
        · refine seg cfg4_ok mixed PanicFree.body 1000 [true, false, true, true, false] [(76, false)] hr12.rebase (by first | trivial | exact HpRep.nil | assumption) (by kernel_rfl) fun s_ hs_ => ?_
          simp (maxSteps := 10000000) [SX.vc, SX.stop, SX.contS, SX.contB, SX.contW, SX.contR, SX.contD, SX.sxStep, SX.stepPure, SX.stepNew, SX.stepStore, SX.stepKeep, SX.guardIx, SX.evOp, SX.opd, SX.opds, SX.optOpd, SX.look, SX.putS, SX.gobs, SX.AllP, SX.leave, SX.lookC, SX.lookB, SX.lookT, SX.lookN, SX.findK, SX.evBuiltin, SX.ints, SX.foldI, SX.evBin, SX.evInt, SX.evStr, SX.evEq, SX.arith, SX.evLoad, SX.shapeUp, SX.evFieldAddr, SX.evField, SX.evIndexAddr, SX.evIndex, SX.evFill, SX.evBuild, SX.szs, SX.cellsV, SX.evNew, SX.evStore, SX.spliceL, SX.SV.cells, SX.evConv, SX.evSlice, SX.bnd, SX.evNil, SX.evUn, SX.evPick, SX.pickOpd, SX.popTo, SX.cnd, SX.env0, SX.TD.isAgg, SX.TD.isIface, SX.tails, SX.NotAgg, SX.evLookup, SX.evConvH, SX.evPtrEq, SX.isCells, SX.thaw, SX.frz, SX.fixB, SX.rootIx, SX.Froz, SX.frzStep, SX.fork, Go.Value.cells, Go.undef, cfg4, her, hd, hne, hle']
          refine ⟨by (unfold SX.Ob; first | trivial | omega | ((try simp only [SX.inK]); (try simp [SX.den, SX.IsU8, SX.AllP, *]); (try omega))), ?_⟩
          intro a15 w15 hr15' _
          have hr15 := hr12.unbase hr15'
          have hD15 := hD12.keepM hr15'.keeps (by simp [frameAt, mutB]; omega)
          have hsee := (hr15.see [(sA, true, .cells (coC c (.slice uL c.T.L.length iL) (.slice uS c.S.length iS) (.slice uW c.W.length iW)) 31), (sA + 1, true, .imap mm), (b, false, .any), (sE, true, .any), (sD, true, .cells (coC d (.slice dL d.T.L.length kL) (.slice dS d.S.length kS) (.slice dW d.W.length kW)) 31), (sD + 1, true, .any)] ⟨⟨hr15.all.1.1, hr15.all.1.2.1, by simp; omega⟩, ⟨hr15.all.2.1.1, hr15.all.2.1.2.1, by simp; omega⟩, ⟨SO.rep_lt hr15.all.2.2.1.1, by simp, by simp; omega⟩, ⟨SO.rep_lt hr15.all.2.2.2.1.1, hr15.all.2.2.2.1.2.1, by simp; omega⟩, ⟨hr15.all.2.2.2.2.1.1, hr15.all.2.2.2.2.1.2.1, by simp⟩, ⟨SO.rep_lt hr15.all.2.2.2.2.2.1.1, hr15.all.2.2.2.2.2.1.2.1, by simp⟩, trivial⟩)
          exact post_inv ⟨sD, mm, F, by omega, hmm, hF', hD15, hsee.re (by simp [envTo, SX.look, den, hne, hv1]) hsee.all rfl rfl⟩
        · refine seg cfg4_ok mixed PanicFree.body 1000 [true, false, false, true, true, false] [(76, false)] hr12.rebase (by first | trivial | exact HpRep.nil | assumption) (by kernel_rfl) fun s_ hs_ => ?_
          simp (maxSteps := 10000000) [SX.vc, SX.stop, SX.contS, SX.contB, SX.contW, SX.contR, SX.contD, SX.sxStep, SX.stepPure, SX.stepNew, SX.stepStore, SX.stepKeep, SX.guardIx, SX.evOp, SX.opd, SX.opds, SX.optOpd, SX.look, SX.putS, SX.gobs, SX.AllP, SX.leave, SX.lookC, SX.lookB, SX.lookT, SX.lookN, SX.findK, SX.evBuiltin, SX.ints, SX.foldI, SX.evBin, SX.evInt, SX.evStr, SX.evEq, SX.arith, SX.evLoad, SX.shapeUp, SX.evFieldAddr, SX.evField, SX.evIndexAddr, SX.evIndex, SX.evFill, SX.evBuild, SX.szs, SX.cellsV, SX.evNew, SX.evStore, SX.spliceL, SX.SV.cells, SX.evConv, SX.evSlice, SX.bnd, SX.evNil, SX.evUn, SX.evPick, SX.pickOpd, SX.popTo, SX.cnd, SX.env0, SX.TD.isAgg, SX.TD.isIface, SX.tails, SX.NotAgg, SX.evLookup, SX.evConvH, SX.evPtrEq, SX.isCells, SX.thaw, SX.frz, SX.fixB, SX.rootIx, SX.Froz, SX.frzStep, SX.fork, Go.Value.cells, Go.undef, cfg4, her, hd, hne, hle']
          refine ⟨by (unfold SX.Ob; first | trivial | omega | ((try simp only [SX.inK]); (try simp [SX.den, SX.IsU8, SX.AllP, *]); (try omega))), ?_⟩
          intro a15 w15 hr15' _
          have hr15 := hr12.unbase hr15'
          have hD15 := hD12.keepM hr15'.keeps (by simp [frameAt, mutB]; omega)
          have hsee := (hr15.see [(sA, true, .cells (coC c (.slice uL c.T.L.length iL) (.slice uS c.S.length iS) (.slice uW c.W.length iW)) 31), (sA + 1, true, .imap mm), (b, false, .any), (sE, true, .any), (sD, true, .cells (coC d (.slice dL d.T.L.length kL) (.slice dS d.S.length kS) (.slice dW d.W.length kW)) 31), (sD + 1, true, .any)] ⟨⟨hr15.all.1.1, hr15.all.1.2.1, by simp; omega⟩, ⟨hr15.all.2.1.1, hr15.all.2.1.2.1, by simp; omega⟩, ⟨SO.rep_lt hr15.all.2.2.1.1, by simp, by simp; omega⟩, ⟨SO.rep_lt hr15.all.2.2.2.1.1, hr15.all.2.2.2.1.2.1, by simp; omega⟩, ⟨hr15.all.2.2.2.2.1.1, hr15.all.2.2.2.2.1.2.1, by simp⟩, ⟨SO.rep_lt hr15.all.2.2.2.2.2.1.1, hr15.all.2.2.2.2.2.1.2.1, by simp⟩, trivial⟩)
          exact post_inv ⟨sD, mm, F, by omega, hmm, hF', hD15, hsee.re (by simp [envTo, SX.look, den, hne, hv1]) hsee.all rfl rfl⟩
        · refine seg cfg4_ok mixed PanicFree.body 1000 [true, false, false, false, true, false] [(76, false)] hr12.rebase (by first | trivial | exact HpRep.nil | assumption) (by kernel_rfl) fun s_ hs_ => ?_
          simp (maxSteps := 10000000) [SX.vc, SX.stop, SX.contS, SX.contB, SX.contW, SX.contR, SX.contD, SX.sxStep, SX.stepPure, SX.stepNew, SX.stepStore, SX.stepKeep, SX.guardIx, SX.evOp, SX.opd, SX.opds, SX.optOpd, SX.look, SX.putS, SX.gobs, SX.AllP, SX.leave, SX.lookC, SX.lookB, SX.lookT, SX.lookN, SX.findK, SX.evBuiltin, SX.ints, SX.foldI, SX.evBin, SX.evInt, SX.evStr, SX.evEq, SX.arith, SX.evLoad, SX.shapeUp, SX.evFieldAddr, SX.evField, SX.evIndexAddr, SX.evIndex, SX.evFill, SX.evBuild, SX.szs, SX.cellsV, SX.evNew, SX.evStore, SX.spliceL, SX.SV.cells, SX.evConv, SX.evSlice, SX.bnd, SX.evNil, SX.evUn, SX.evPick, SX.pickOpd, SX.popTo, SX.cnd, SX.env0, SX.TD.isAgg, SX.TD.isIface, SX.tails, SX.NotAgg, SX.evLookup, SX.evConvH, SX.evPtrEq, SX.isCells, SX.thaw, SX.frz, SX.fixB, SX.rootIx, SX.Froz, SX.frzStep, SX.fork, Go.Value.cells, Go.undef, cfg4, her, hd, hne, hle']
          refine ⟨by (unfold SX.Ob; first | trivial | omega | ((try simp only [SX.inK]); (try simp [SX.den, SX.IsU8, SX.AllP, *]); (try omega))), ?_⟩
          intro a15 w15 hr15' _
          have hr15 := hr12.unbase hr15'
          have hD15 := hD12.keepM hr15'.keeps (by simp [frameAt, mutB]; omega)
          have hsee := (hr15.see [(sA, true, .cells (coC c (.slice uL c.T.L.length iL) (.slice uS c.S.length iS) (.slice uW c.W.length iW)) 31), (sA + 1, true, .imap mm), (b, false, .any), (sE, true, .any), (sD, true, .cells (coC d (.slice dL d.T.L.length kL) (.slice dS d.S.length kS) (.slice dW d.W.length kW)) 31), (sD + 1, true, .any)] ⟨⟨hr15.all.1.1, hr15.all.1.2.1, by simp; omega⟩, ⟨hr15.all.2.1.1, hr15.all.2.1.2.1, by simp; omega⟩, ⟨SO.rep_lt hr15.all.2.2.1.1, by simp, by simp; omega⟩, ⟨SO.rep_lt hr15.all.2.2.2.1.1, hr15.all.2.2.2.1.2.1, by simp; omega⟩, ⟨hr15.all.2.2.2.2.1.1, hr15.all.2.2.2.2.1.2.1, by simp⟩, ⟨SO.rep_lt hr15.all.2.2.2.2.2.1.1, hr15.all.2.2.2.2.2.1.2.1, by simp⟩, trivial⟩)
          exact post_inv ⟨sD, mm, F, by omega, hmm, hF', hD15, hsee.re (by simp [envTo, SX.look, den, hne, hv1]) hsee.all rfl rfl⟩
      have n1' : ¬ e.d = 1 := fun h => hmk (.inl h)
      have n2' : ¬ e.d = 2 := fun h => hmk (.inr (.inl h))
      have n4' : ¬ e.d = 4 := fun h => hmk (.inr (.inr (.inl h)))
      have n5' : ¬ e.d = 5 := fun h => hmk (.inr (.inr (.inr h)))
      have hlast : d.T.last = c.T.last := s2 fun h => hmk h.2
      by_cases hd : e.d = 3
      · have hN : nxF F c e = updF F e.z A.ep := by
            unfold nxF
            rw [hA, if_pos ⟨her, hd⟩]
        refine seg cfg4_ok mixed PanicFree.body 1000 [true, false, false, false, false, true] [] hr12.rebase (by first | trivial | exact HpRep.nil | assumption) (by kernel_rfl) fun s_ hs_ => ?_
        simp (maxSteps := 10000000) [SX.vc, SX.stop, SX.contS, SX.contB, SX.contW, SX.contR, SX.contD, SX.sxStep, SX.stepPure, SX.stepNew, SX.stepStore, SX.stepKeep, SX.guardIx, SX.evOp, SX.opd, SX.opds, SX.optOpd, SX.look, SX.putS, SX.gobs, SX.AllP, SX.leave, SX.lookC, SX.lookB, SX.lookT, SX.lookN, SX.findK, SX.evBuiltin, SX.ints, SX.foldI, SX.evBin, SX.evInt, SX.evStr, SX.evEq, SX.arith, SX.evLoad, SX.shapeUp, SX.evFieldAddr, SX.evField, SX.evIndexAddr, SX.evIndex, SX.evFill, SX.evBuild, SX.szs, SX.cellsV, SX.evNew, SX.evStore, SX.spliceL, SX.SV.cells, SX.evConv, SX.evSlice, SX.bnd, SX.evNil, SX.evUn, SX.evPick, SX.pickOpd, SX.popTo, SX.cnd, SX.env0, SX.TD.isAgg, SX.TD.isIface, SX.tails, SX.NotAgg, SX.evLookup, SX.evConvH, SX.evPtrEq, SX.isCells, SX.thaw, SX.frz, SX.fixB, SX.rootIx, SX.Froz, SX.frzStep, SX.fork, Go.Value.cells, Go.undef, cfg4, her, hd]
        refine ⟨by (unfold SX.Ob; first | trivial | omega | ((try simp only [SX.inK]); (try simp [SX.den, SX.IsU8, SX.AllP, *]); (try omega))), ?_⟩
        intro a15 w15 hr15' _
        have hr15 := hr12.unbase hr15'
        have hD15 := hD12.keepM hr15'.keeps (by simp [frameAt, mutB]; omega)
        have hsee := (hr15.see [(sA, true, .cells (coC c (.slice uL c.T.L.length iL) (.slice uS c.S.length iS) (.slice uW c.W.length iW)) 31), (sA + 1, true, .imap (updFn mm e.z (.v (.int .i64 A.ep)))), (b, false, .any), (sE, true, .any), (sD, true, .cells (coC d (.slice dL d.T.L.length kL) (.slice dS d.S.length kS) (.slice dW d.W.length kW)) 31), (sD + 1, true, .any)] ⟨⟨hr15.all.1.1, hr15.all.1.2.1, by simp; omega⟩, ⟨hr15.all.2.1.1, hr15.all.2.1.2.1, by simp; omega⟩, ⟨SO.rep_lt hr15.all.2.2.1.1, by simp, by simp; omega⟩, ⟨SO.rep_lt hr15.all.2.2.2.1.1, hr15.all.2.2.2.1.2.1, by simp; omega⟩, ⟨hr15.all.2.2.2.2.1.1, hr15.all.2.2.2.2.1.2.1, by simp⟩, ⟨SO.rep_lt hr15.all.2.2.2.2.2.1.1, hr15.all.2.2.2.2.2.1.2.1, by simp⟩, trivial⟩)
        exact post_inv ⟨sD, (updFn mm e.z (.v (.int .i64 A.ep))), (updF F e.z A.ep), by omega, hmm.upd e.z A.ep, by rw [← hN]; exact s3, hD15, hsee.re (by simp [envTo, SX.look, den, hlast, hv1]) hsee.all rfl rfl⟩
      · have hN : nxF F c e = F := if_neg fun h => hd h.2
        refine seg cfg4_ok mixed PanicFree.body 1000 [true, false, false, false, false, false] [] hr12.rebase (by first | trivial | exact HpRep.nil | assumption) (by kernel_rfl) fun s_ hs_ => ?_
        simp (maxSteps := 10000000) [SX.vc, SX.stop, SX.contS, SX.contB, SX.contW, SX.contR, SX.contD, SX.sxStep, SX.stepPure, SX.stepNew, SX.stepStore, SX.stepKeep, SX.guardIx, SX.evOp, SX.opd, SX.opds, SX.optOpd, SX.look, SX.putS, SX.gobs, SX.AllP, SX.leave, SX.lookC, SX.lookB, SX.lookT, SX.lookN, SX.findK, SX.evBuiltin, SX.ints, SX.foldI, SX.evBin, SX.evInt, SX.evStr, SX.evEq, SX.arith, SX.evLoad, SX.shapeUp, SX.evFieldAddr, SX.evField, SX.evIndexAddr, SX.evIndex, SX.evFill, SX.evBuild, SX.szs, SX.cellsV, SX.evNew, SX.evStore, SX.spliceL, SX.SV.cells, SX.evConv, SX.evSlice, SX.bnd, SX.evNil, SX.evUn, SX.evPick, SX.pickOpd, SX.popTo, SX.cnd, SX.env0, SX.TD.isAgg, SX.TD.isIface, SX.tails, SX.NotAgg, SX.evLookup, SX.evConvH, SX.evPtrEq, SX.isCells, SX.thaw, SX.frz, SX.fixB, SX.rootIx, SX.Froz, SX.frzStep, SX.fork, Go.Value.cells, Go.undef, cfg4, her, hd, n1', n2', n4', n5']
        refine ⟨by (unfold SX.Ob; first | trivial | omega | ((try simp only [SX.inK]); (try simp [SX.den, SX.IsU8, SX.AllP, *]); (try omega))), ?_⟩
        intro a15 w15 hr15' _
        have hr15 := hr12.unbase hr15'
        have hD15 := hD12.keepM hr15'.keeps (by simp [frameAt, mutB]; omega)
        have hsee := (hr15.see [(sA, true, .cells (coC c (.slice uL c.T.L.length iL) (.slice uS c.S.length iS) (.slice uW c.W.length iW)) 31), (sA + 1, true, .imap mm), (b, false, .any), (sE, true, .any), (sD, true, .cells (coC d (.slice dL d.T.L.length kL) (.slice dS d.S.length kS) (.slice dW d.W.length kW)) 31), (sD + 1, true, .any)] ⟨⟨hr15.all.1.1, hr15.all.1.2.1, by simp; omega⟩, ⟨hr15.all.2.1.1, hr15.all.2.1.2.1, by simp; omega⟩, ⟨SO.rep_lt hr15.all.2.2.1.1, by simp, by simp; omega⟩, ⟨SO.rep_lt hr15.all.2.2.2.1.1, hr15.all.2.2.2.1.2.1, by simp; omega⟩, ⟨hr15.all.2.2.2.2.1.1, hr15.all.2.2.2.2.1.2.1, by simp⟩, ⟨SO.rep_lt hr15.all.2.2.2.2.2.1.1, hr15.all.2.2.2.2.2.1.2.1, by simp⟩, trivial⟩)
        exact post_inv ⟨sD, mm, F, by omega, hmm, by rw [← hN]; exact s3, hD15, hsee.re (by simp [envTo, SX.look, den, hlast, hv1]) hsee.all rfl rfl⟩
  case h2 =>
    rintro a13 w13 ⟨sD, mm', F', hsD, hmm', hF', hD13, hr13⟩
    have q13 := hpLt hr13.all
    simp at q13
    have hck : chkT d.T = 0 := if_pos Id.T
    have hcp : S7.chkP d.S = 0 := if_pos Id.S
    refine seg cfg4_ok mixed PanicFree.body 1000 [] [] hr13.rebase (by first | trivial | exact HpRep.nil | assumption) (by kernel_rfl) fun s_ hs_ => ?_
    simp (maxSteps := 10000000) [SX.vc, SX.stop, SX.contS, SX.contB, SX.contW, SX.contR, SX.contD, SX.sxStep, SX.stepPure, SX.stepNew, SX.stepStore, SX.stepKeep, SX.guardIx, SX.evOp, SX.opd, SX.opds, SX.optOpd, SX.look, SX.putS, SX.gobs, SX.AllP, SX.leave, SX.lookC, SX.lookB, SX.lookT, SX.lookN, SX.findK, SX.evBuiltin, SX.ints, SX.foldI, SX.evBin, SX.evInt, SX.evStr, SX.evEq, SX.arith, SX.evLoad, SX.shapeUp, SX.evFieldAddr, SX.evField, SX.evIndexAddr, SX.evIndex, SX.evFill, SX.evBuild, SX.szs, SX.cellsV, SX.evNew, SX.evStore, SX.spliceL, SX.SV.cells, SX.evConv, SX.evSlice, SX.bnd, SX.evNil, SX.evUn, SX.evPick, SX.pickOpd, SX.popTo, SX.cnd, SX.env0, SX.TD.isAgg, SX.TD.isIface, SX.tails, SX.NotAgg, SX.evLookup, SX.evConvH, SX.evPtrEq, SX.isCells, SX.thaw, SX.frz, SX.fixB, SX.rootIx, SX.Froz, SX.frzStep, SX.fork, Go.Value.cells, Go.undef, cfg4, coC]
    refine ⟨by (unfold SX.Ob; first | trivial | omega | ((try simp only [SX.inK]); (try simp [SX.den, SX.IsU8, SX.AllP, *]); (try omega))), ?_⟩
    intro a14 w14 hr14' _
    have hr14 := hr13.unbase hr14'
    have hD14 := hD13.keepM hr14'.keeps (by simp [frameAt, mutB]; omega)
    have hc1 := L6.rcheck_ok w14 _ d.T hD14.1 (by omega)
    rw [hck] at hc1
    refine post_call 16 [.ag (tabC d.T (.slice dL d.T.L.length kL))] hr14 (by first | exact wanted_none rfl | exact wanted_zero (hr14.env.same rfl rfl rfl rfl) rfl (by simp) | exact wanted_zero (hr14.env.same rfl rfl rfl rfl) rfl (by simp [*])) rfl (callable 16 Try.func16) (hc1) ?_
    rintro e15 w15 ⟨rfl, hb15⟩
    refine ⟨_, rfl, ?_⟩
    have h15 := hr14.ret hb15 95 (.v (.int .i64 0)) rfl _ (hr14.all.below hb15) (by simp) rfl
    refine seg cfg4_ok mixed PanicFree.body 1000 [] [(97, false)] h15.rebase (by first | trivial | exact HpRep.nil | assumption) (by kernel_rfl) fun s_ hs_ => ?_
    simp (maxSteps := 10000000) [SX.vc, SX.stop, SX.contS, SX.contB, SX.contW, SX.contR, SX.contD, SX.sxStep, SX.stepPure, SX.stepNew, SX.stepStore, SX.stepKeep, SX.guardIx, SX.evOp, SX.opd, SX.opds, SX.optOpd, SX.look, SX.putS, SX.gobs, SX.AllP, SX.leave, SX.lookC, SX.lookB, SX.lookT, SX.lookN, SX.findK, SX.evBuiltin, SX.ints, SX.foldI, SX.evBin, SX.evInt, SX.evStr, SX.evEq, SX.arith, SX.evLoad, SX.shapeUp, SX.evFieldAddr, SX.evField, SX.evIndexAddr, SX.evIndex, SX.evFill, SX.evBuild, SX.szs, SX.cellsV, SX.evNew, SX.evStore, SX.spliceL, SX.SV.cells, SX.evConv, SX.evSlice, SX.bnd, SX.evNil, SX.evUn, SX.evPick, SX.pickOpd, SX.popTo, SX.cnd, SX.env0, SX.TD.isAgg, SX.TD.isIface, SX.tails, SX.NotAgg, SX.evLookup, SX.evConvH, SX.evPtrEq, SX.isCells, SX.thaw, SX.frz, SX.fixB, SX.rootIx, SX.Froz, SX.frzStep, SX.fork, Go.Value.cells, Go.undef, cfg4, coC]
    refine ⟨by (unfold SX.Ob; first | trivial | omega | ((try simp only [SX.inK]); (try simp [SX.den, SX.IsU8, SX.AllP, *]); (try omega))), ?_⟩
    intro a16 w16 hr16' _
    have hr16 := h15.unbase hr16'
    have hD16 := (hD14.below' hb15).keepM hr16'.keeps (by simp [frameAt, mutB]; omega)
    have hc2 := S7.rcheck_ok w16 _ d.S hD16.2.1 (by omega)
    rw [hcp] at hc2
    refine post_call 17 [.v (.slice dS d.S.length kS)] hr16 (by first | exact wanted_none rfl | exact wanted_zero (hr16.env.same rfl rfl rfl rfl) rfl (by simp) | exact wanted_zero (hr16.env.same rfl rfl rfl rfl) rfl (by simp [*])) rfl (callable 17 Try.func17) (hc2) ?_
    rintro e17 w17 ⟨rfl, hb17⟩
    refine ⟨_, rfl, ?_⟩
    have h17 := hr16.ret hb17 100 (.v (.int .i64 0)) rfl _ (hr16.all.below hb17) (by simp) rfl
    refine seg cfg4_ok mixed PanicFree.body 1000 [false] [(97, false), (103, false)] h17.rebase (by first | trivial | exact HpRep.nil | assumption) (by kernel_rfl) fun s_ hs_ => ?_
    simp (maxSteps := 10000000) [SX.vc, SX.stop, SX.contS, SX.contB, SX.contW, SX.contR, SX.contD, SX.sxStep, SX.stepPure, SX.stepNew, SX.stepStore, SX.stepKeep, SX.guardIx, SX.evOp, SX.opd, SX.opds, SX.optOpd, SX.look, SX.putS, SX.gobs, SX.AllP, SX.leave, SX.lookC, SX.lookB, SX.lookT, SX.lookN, SX.findK, SX.evBuiltin, SX.ints, SX.foldI, SX.evBin, SX.evInt, SX.evStr, SX.evEq, SX.arith, SX.evLoad, SX.shapeUp, SX.evFieldAddr, SX.evField, SX.evIndexAddr, SX.evIndex, SX.evFill, SX.evBuild, SX.szs, SX.cellsV, SX.evNew, SX.evStore, SX.spliceL, SX.SV.cells, SX.evConv, SX.evSlice, SX.bnd, SX.evNil, SX.evUn, SX.evPick, SX.pickOpd, SX.popTo, SX.cnd, SX.env0, SX.TD.isAgg, SX.TD.isIface, SX.tails, SX.NotAgg, SX.evLookup, SX.evConvH, SX.evPtrEq, SX.isCells, SX.thaw, SX.frz, SX.fixB, SX.rootIx, SX.Froz, SX.frzStep, SX.fork, Go.Value.cells, Go.undef, cfg4, coC]
    refine ⟨by (unfold SX.Ob; first | trivial | omega | ((try simp only [SX.inK]); (try simp [SX.den, SX.IsU8, SX.AllP, *]); (try omega))), ?_⟩
    intro a18 w18 hr18' _
    have hr18 := h17.unbase hr18'
    have hD18 := (hD16.below' hb17).keepM hr18'.keeps (by simp [frameAt, mutB]; omega)
    have y1 := Id.z1
    have y8 := Id.z8
    obtain ⟨N, hN⟩ : ∃ N : Nat, d.zn = N := ⟨d.zn.toNat, by omega⟩
    refine post_loop (fun m a w' => ∃ j : Nat, m = N - j ∧ j ≤ N ∧ RdCo (fun x => w10.heap.size ≤ x ∧ x < w11.heap.size) w' (.slice dL d.T.L.length kL) (.slice dS d.S.length kS) (.slice dW d.W.length kW) d ∧ RepX (frame0 w) ⟨[(112, 0, .v (.int .i64 j)), (111, 0, .v (.int .i64 d.zn)), (43, 0, .v (.int .i64 k)), (42, 0, .v (.int .i64 L.length)), (41, 0, .v (.slice adE L.length cpE)), (11, 0, .mp 1 (sA + 1)), (10, 0, .v (.int .i64 d.T.last)), (14, 0, .ptr 4 sD 0), (8, 0, .ptr 0 sA 0), (7, 0, .v (.bool true)), (6, 0, .v (.bool false))], [(sA, true, .cells (coC c (.slice uL c.T.L.length iL) (.slice uS c.S.length iS) (.slice uW c.W.length iW)) 31), (sA + 1, true, .imap mm'), (b, false, .any), (sE, true, .any), (sD, true, .cells (coC d (.slice dL d.T.L.length kL) (.slice dS d.S.length kS) (.slice dW d.W.length kW)) 31), (sD + 1, true, .any)], 0, 0, 214, [], [], []⟩ a w') N ⟨0, rfl, by omega, hD18, hr18.re (by simp [envTo, SX.look]) hr18.all rfl rfl⟩ ?_
    rintro m a19 w19 ⟨j, rfl, hj, hD19, hr19⟩
    by_cases hjN : j < N
    · have hjz : (j : Int) < d.zn := by omega
      refine seg cfg4_ok mixed PanicFree.body 1000 [true] [] hr19.rebase (by first | trivial | exact HpRep.nil | assumption) (by kernel_rfl) fun s_ hs_ => ?_
      simp (maxSteps := 10000000) [SX.vc, SX.stop, SX.contS, SX.contB, SX.contW, SX.contR, SX.contD, SX.sxStep, SX.stepPure, SX.stepNew, SX.stepStore, SX.stepKeep, SX.guardIx, SX.evOp, SX.opd, SX.opds, SX.optOpd, SX.look, SX.putS, SX.gobs, SX.AllP, SX.leave, SX.lookC, SX.lookB, SX.lookT, SX.lookN, SX.findK, SX.evBuiltin, SX.ints, SX.foldI, SX.evBin, SX.evInt, SX.evStr, SX.evEq, SX.arith, SX.evLoad, SX.shapeUp, SX.evFieldAddr, SX.evField, SX.evIndexAddr, SX.evIndex, SX.evFill, SX.evBuild, SX.szs, SX.cellsV, SX.evNew, SX.evStore, SX.spliceL, SX.SV.cells, SX.evConv, SX.evSlice, SX.bnd, SX.evNil, SX.evUn, SX.evPick, SX.pickOpd, SX.popTo, SX.cnd, SX.env0, SX.TD.isAgg, SX.TD.isIface, SX.tails, SX.NotAgg, SX.evLookup, SX.evConvH, SX.evPtrEq, SX.isCells, SX.thaw, SX.frz, SX.fixB, SX.rootIx, SX.Froz, SX.frzStep, SX.fork, Go.Value.cells, Go.undef, cfg4, coC, hjz]
      refine ⟨by (unfold SX.Ob; first | trivial | omega | ((try simp only [SX.inK]); (try simp [SX.den, SX.IsU8, SX.AllP, *]); (try omega))), ?_⟩
      intro a20 w20 hr20' _
      have hr20 := hr19.unbase hr20'
      have hD20 := hD19.keepM hr20'.keeps (by simp [frameAt, mutB]; omega)
      have how := owner_ok w20 d _ (.slice dS d.S.length kS) (.slice dW d.W.length kW) j hD20.1 (by omega)
      by_cases h0 : 0 ≤ ownH d j
      · have hE := own_fenced Id hF' (z := (j : Int)) (by omega) hjz h0
        rw [hE] at how
        refine post_call 14 [.ag (coC d (.slice dL d.T.L.length kL) (.slice dS d.S.length kS) (.slice dW d.W.length kW)), .v (.int .i64 j)] hr20 (by first | exact wanted_none rfl | exact wanted_zero (hr20.env.same rfl rfl rfl rfl) rfl (by simp) | exact wanted_zero (hr20.env.same rfl rfl rfl rfl) rfl (by simp [*])) rfl (callable 14 Try.func14) (how) ?_
        rintro e21 w21 ⟨rfl, hb21⟩
        refine ⟨_, rfl, ?_⟩
        have h21 := hr20.ret hb21 118 (.tu [.v (.int .i64 (ownH d j)), .v (.int .i64 (F' j))]) rfl _ (hr20.all.below hb21) (by simp) rfl
        have hD21 := hD20.below' hb21
        rcases hmm' j with ⟨g1, g2⟩ | g1
        · refine seg cfg4_ok mixed PanicFree.body 1000 [false] [(123, true)] h21.rebase (by first | trivial | exact HpRep.nil | assumption) (by kernel_rfl) fun s_ hs_ => ?_
          simp (maxSteps := 10000000) [SX.vc, SX.stop, SX.contS, SX.contB, SX.contW, SX.contR, SX.contD, SX.sxStep, SX.stepPure, SX.stepNew, SX.stepStore, SX.stepKeep, SX.guardIx, SX.evOp, SX.opd, SX.opds, SX.optOpd, SX.look, SX.putS, SX.gobs, SX.AllP, SX.leave, SX.lookC, SX.lookB, SX.lookT, SX.lookN, SX.findK, SX.evBuiltin, SX.ints, SX.foldI, SX.evBin, SX.evInt, SX.evStr, SX.evEq, SX.arith, SX.evLoad, SX.shapeUp, SX.evFieldAddr, SX.evField, SX.evIndexAddr, SX.evIndex, SX.evFill, SX.evBuild, SX.szs, SX.cellsV, SX.evNew, SX.evStore, SX.spliceL, SX.SV.cells, SX.evConv, SX.evSlice, SX.bnd, SX.evNil, SX.evUn, SX.evPick, SX.pickOpd, SX.popTo, SX.cnd, SX.env0, SX.TD.isAgg, SX.TD.isIface, SX.tails, SX.NotAgg, SX.evLookup, SX.evConvH, SX.evPtrEq, SX.isCells, SX.thaw, SX.frz, SX.fixB, SX.rootIx, SX.Froz, SX.frzStep, SX.fork, Go.Value.cells, Go.undef, cfg4, h0, g1, g2]
          refine ⟨by (unfold SX.Ob; first | trivial | omega | ((try simp only [SX.inK]); (try simp [SX.den, SX.IsU8, SX.AllP, *]); (try omega))), ?_⟩
          intro a22 w22 hr22' _
          have hr22 := h21.unbase hr22'
          exact post_rnd (N - (j + 1)) (by omega) ⟨j + 1, rfl, hjN, hD21.keepM hr22'.keeps (by simp [frameAt, mutB]; omega), hr22.re (by simp [envTo, SX.look, den]) hr22.all rfl rfl⟩
        · refine seg cfg4_ok mixed PanicFree.body 1000 [false] [(123, true)] h21.rebase (by first | trivial | exact HpRep.nil | assumption) (by kernel_rfl) fun s_ hs_ => ?_
          simp (maxSteps := 10000000) [SX.vc, SX.stop, SX.contS, SX.contB, SX.contW, SX.contR, SX.contD, SX.sxStep, SX.stepPure, SX.stepNew, SX.stepStore, SX.stepKeep, SX.guardIx, SX.evOp, SX.opd, SX.opds, SX.optOpd, SX.look, SX.putS, SX.gobs, SX.AllP, SX.leave, SX.lookC, SX.lookB, SX.lookT, SX.lookN, SX.findK, SX.evBuiltin, SX.ints, SX.foldI, SX.evBin, SX.evInt, SX.evStr, SX.evEq, SX.arith, SX.evLoad, SX.shapeUp, SX.evFieldAddr, SX.evField, SX.evIndexAddr, SX.evIndex, SX.evFill, SX.evBuild, SX.szs, SX.cellsV, SX.evNew, SX.evStore, SX.spliceL, SX.SV.cells, SX.evConv, SX.evSlice, SX.bnd, SX.evNil, SX.evUn, SX.evPick, SX.pickOpd, SX.popTo, SX.cnd, SX.env0, SX.TD.isAgg, SX.TD.isIface, SX.tails, SX.NotAgg, SX.evLookup, SX.evConvH, SX.evPtrEq, SX.isCells, SX.thaw, SX.frz, SX.fixB, SX.rootIx, SX.Froz, SX.frzStep, SX.fork, Go.Value.cells, Go.undef, cfg4, h0, g1]
          refine ⟨by (unfold SX.Ob; first | trivial | omega | ((try simp only [SX.inK]); (try simp [SX.den, SX.IsU8, SX.AllP, *]); (try omega))), ?_⟩
          intro a22 w22 hr22' _
          have hr22 := h21.unbase hr22'
          exact post_rnd (N - (j + 1)) (by omega) ⟨j + 1, rfl, hjN, hD21.keepM hr22'.keeps (by simp [frameAt, mutB]; omega), hr22.re (by simp [envTo, SX.look, den]) hr22.all rfl rfl⟩
      · refine post_call 14 [.ag (coC d (.slice dL d.T.L.length kL) (.slice dS d.S.length kS) (.slice dW d.W.length kW)), .v (.int .i64 j)] hr20 (by first | exact wanted_none rfl | exact wanted_zero (hr20.env.same rfl rfl rfl rfl) rfl (by simp) | exact wanted_zero (hr20.env.same rfl rfl rfl rfl) rfl (by simp [*])) rfl (callable 14 Try.func14) (how) ?_
        rintro e21 w21 ⟨rfl, hb21⟩
        refine ⟨_, rfl, ?_⟩
        have h21 := hr20.ret hb21 118 (.tu [.v (.int .i64 (ownH d j)), .v (.int .i64 (ownE d j))]) rfl _ (hr20.all.below hb21) (by simp) rfl
        have hD21 := hD20.below' hb21
        refine seg cfg4_ok mixed PanicFree.body 1000 [false] [(123, false)] h21.rebase (by first | trivial | exact HpRep.nil | assumption) (by kernel_rfl) fun s_ hs_ => ?_
        simp (maxSteps := 10000000) [SX.vc, SX.stop, SX.contS, SX.contB, SX.contW, SX.contR, SX.contD, SX.sxStep, SX.stepPure, SX.stepNew, SX.stepStore, SX.stepKeep, SX.guardIx, SX.evOp, SX.opd, SX.opds, SX.optOpd, SX.look, SX.putS, SX.gobs, SX.AllP, SX.leave, SX.lookC, SX.lookB, SX.lookT, SX.lookN, SX.findK, SX.evBuiltin, SX.ints, SX.foldI, SX.evBin, SX.evInt, SX.evStr, SX.evEq, SX.arith, SX.evLoad, SX.shapeUp, SX.evFieldAddr, SX.evField, SX.evIndexAddr, SX.evIndex, SX.evFill, SX.evBuild, SX.szs, SX.cellsV, SX.evNew, SX.evStore, SX.spliceL, SX.SV.cells, SX.evConv, SX.evSlice, SX.bnd, SX.evNil, SX.evUn, SX.evPick, SX.pickOpd, SX.popTo, SX.cnd, SX.env0, SX.TD.isAgg, SX.TD.isIface, SX.tails, SX.NotAgg, SX.evLookup, SX.evConvH, SX.evPtrEq, SX.isCells, SX.thaw, SX.frz, SX.fixB, SX.rootIx, SX.Froz, SX.frzStep, SX.fork, Go.Value.cells, Go.undef, cfg4, h0]
        refine ⟨by (unfold SX.Ob; first | trivial | omega | ((try simp only [SX.inK]); (try simp [SX.den, SX.IsU8, SX.AllP, *]); (try omega))), ?_⟩
        intro a22 w22 hr22' _
        have hr22 := h21.unbase hr22'
        exact post_rnd (N - (j + 1)) (by omega) ⟨j + 1, rfl, hjN, hD21.keepM hr22'.keeps (by simp [frameAt, mutB]; omega), hr22.re (by simp [envTo, SX.look, den]) hr22.all rfl rfl⟩
    have hjz : ¬ (j : Int) < d.zn := by omega
    refine seg cfg4_ok mixed PanicFree.body 1000 [false] [] hr19.rebase (by first | trivial | exact HpRep.nil | assumption) (by kernel_rfl) fun s_ hs_ => ?_
    simp (maxSteps := 10000000) [SX.vc, SX.stop, SX.contS, SX.contB, SX.contW, SX.contR, SX.contD, SX.sxStep, SX.stepPure, SX.stepNew, SX.stepStore, SX.stepKeep, SX.guardIx, SX.evOp, SX.opd, SX.opds, SX.optOpd, SX.look, SX.putS, SX.gobs, SX.AllP, SX.leave, SX.lookC, SX.lookB, SX.lookT, SX.lookN, SX.findK, SX.evBuiltin, SX.ints, SX.foldI, SX.evBin, SX.evInt, SX.evStr, SX.evEq, SX.arith, SX.evLoad, SX.shapeUp, SX.evFieldAddr, SX.evField, SX.evIndexAddr, SX.evIndex, SX.evFill, SX.evBuild, SX.szs, SX.cellsV, SX.evNew, SX.evStore, SX.spliceL, SX.SV.cells, SX.evConv, SX.evSlice, SX.bnd, SX.evNil, SX.evUn, SX.evPick, SX.pickOpd, SX.popTo, SX.cnd, SX.env0, SX.TD.isAgg, SX.TD.isIface, SX.tails, SX.NotAgg, SX.evLookup, SX.evConvH, SX.evPtrEq, SX.isCells, SX.thaw, SX.frz, SX.fixB, SX.rootIx, SX.Froz, SX.frzStep, SX.fork, Go.Value.cells, Go.undef, cfg4, coC, hjz]
    refine ⟨by (unfold SX.Ob; first | trivial | omega | ((try simp only [SX.inK]); (try simp [SX.den, SX.IsU8, SX.AllP, *]); (try omega))), ?_⟩
    intro a20 w20 hr20' _
    have hr20 := hr19.unbase hr20'
    have hD20 := hD19.keepM hr20'.keeps (by simp [frameAt, mutB]; omega)
    refine post_loop (fun m a w' => ∃ j : Nat, m = d.S.length - j ∧ j ≤ d.S.length ∧ RdCo (fun x => w10.heap.size ≤ x ∧ x < w11.heap.size) w' (.slice dL d.T.L.length kL) (.slice dS d.S.length kS) (.slice dW d.W.length kW) d ∧ RepX (frame0 w) ⟨[(134, 0, .v (.int .i64 j)), (133, 0, .v (.int .i64 d.S.length)), (132, 0, .v (.slice dS d.S.length kS)), (43, 0, .v (.int .i64 k)), (42, 0, .v (.int .i64 L.length)), (41, 0, .v (.slice adE L.length cpE)), (11, 0, .mp 1 (sA + 1)), (10, 0, .v (.int .i64 d.T.last)), (14, 0, .ptr 4 sD 0), (8, 0, .ptr 0 sA 0), (7, 0, .v (.bool true)), (6, 0, .v (.bool false))], [(sA, true, .cells (coC c (.slice uL c.T.L.length iL) (.slice uS c.S.length iS) (.slice uW c.W.length iW)) 31), (sA + 1, true, .imap mm'), (b, false, .any), (sE, true, .any), (sD, true, .cells (coC d (.slice dL d.T.L.length kL) (.slice dS d.S.length kS) (.slice dW d.W.length kW)) 31), (sD + 1, true, .any)], 0, 0, 214, [], [], []⟩ a w') d.S.length ⟨0, rfl, by omega, hD20, hr20.re (by simp [envTo, SX.look]) hr20.all rfl rfl⟩ ?_
    rintro m a21 w21 ⟨j, rfl, hj, hD21, hr21⟩
    have q21 := hpLt hr21.all
    simp at q21
    by_cases hjN : j < d.S.length
    · obtain ⟨b2, o2, cap2, u2, fz2, hP2, hv, hrep2⟩ := hD21.2.1.opn hjN
      simp only [Value.slice.injEq] at hv
      obtain ⟨hv2, _, hv3⟩ := hv
      obtain ⟨x, hx⟩ : ∃ x, nth S7.spn0 d.S j = x := ⟨_, rfl⟩
      have hxS : x ∈ d.S := hx ▸ nth_mem hjN
      have hr21b := hr21.top 132 (.sl 6 b2 o2 0 d.S.length kS 4) rfl (by simp [den, hv2])
      have h22 := hr21b.see [(sA, true, .cells (coC c (.slice uL c.T.L.length iL) (.slice uS c.S.length iS) (.slice uW c.W.length iW)) 31), (sA + 1, true, .imap mm'), (b, false, .any), (sE, true, .any), (sD, true, .cells (coC d (.slice dL d.T.L.length kL) (.slice dS d.S.length kS) (.slice dW d.W.length kW)) 31), (sD + 1, true, .any), (b2, false, .arr o2 d.S.length (fun j => S7.spnC (nth S7.spn0 d.S j)) 4 u2 fz2)] ⟨⟨hr21b.all.1.1, hr21b.all.1.2.1, by simp; omega⟩, ⟨hr21b.all.2.1.1, hr21b.all.2.1.2.1, by simp; omega⟩, ⟨hr21b.all.2.2.1.1, hr21b.all.2.2.1.2.1, by simp; omega⟩, ⟨hr21b.all.2.2.2.1.1, hr21b.all.2.2.2.1.2.1, by simp; omega⟩, ⟨hr21b.all.2.2.2.2.1.1, hr21b.all.2.2.2.2.1.2.1, by simp; omega⟩, ⟨hr21b.all.2.2.2.2.2.1.1, hr21b.all.2.2.2.2.2.1.2.1, by simp; omega⟩, ⟨hrep2, by simp, by simp⟩, trivial⟩
      by_cases h0 : 0 ≤ x.ow
      · obtain ⟨g1, g2⟩ := own_span Id hxS h0
        refine seg cfg4_ok mixed PanicFree.body 1000 [true] [(141, true)] h22.rebase (by first | trivial | exact HpRep.nil | assumption) (by kernel_rfl) fun s_ hs_ => ?_
        simp (maxSteps := 10000000) [SX.vc, SX.stop, SX.contS, SX.contB, SX.contW, SX.contR, SX.contD, SX.sxStep, SX.stepPure, SX.stepNew, SX.stepStore, SX.stepKeep, SX.guardIx, SX.evOp, SX.opd, SX.opds, SX.optOpd, SX.look, SX.putS, SX.gobs, SX.AllP, SX.leave, SX.lookC, SX.lookB, SX.lookT, SX.lookN, SX.findK, SX.evBuiltin, SX.ints, SX.foldI, SX.evBin, SX.evInt, SX.evStr, SX.evEq, SX.arith, SX.evLoad, SX.shapeUp, SX.evFieldAddr, SX.evField, SX.evIndexAddr, SX.evIndex, SX.evFill, SX.evBuild, SX.szs, SX.cellsV, SX.evNew, SX.evStore, SX.spliceL, SX.SV.cells, SX.evConv, SX.evSlice, SX.bnd, SX.evNil, SX.evUn, SX.evPick, SX.pickOpd, SX.popTo, SX.cnd, SX.env0, SX.TD.isAgg, SX.TD.isIface, SX.tails, SX.NotAgg, SX.evLookup, SX.evConvH, SX.evPtrEq, SX.isCells, SX.thaw, SX.frz, SX.fixB, SX.rootIx, SX.Froz, SX.frzStep, SX.fork, Go.Value.cells, Go.undef, cfg4, S7.spnC, hx, h0, coC]
        refine ⟨by (unfold SX.Ob; first | trivial | omega | ((try simp only [SX.inK]); (try simp [SX.den, SX.IsU8, SX.AllP, *]); (try omega))), ?_⟩
        intro a23 w23 hr23' _
        have hr23 := h22.unbase hr23'
        have hD23 := hD21.keepM hr23'.keeps (by simp [frameAt, mutB]; omega)
        have hme := member_ok w23 d _ (.slice dS d.S.length kS) (.slice dW d.W.length kW) x.ow hD23.1 (by omega)
        rw [decide_eq_true g1] at hme
        refine post_call 13 [.ag (coC d (.slice dL d.T.L.length kL) (.slice dS d.S.length kS) (.slice dW d.W.length kW)), .v (.int .i64 x.ow)] hr23 (by first | exact wanted_none rfl | exact wanted_zero (hr23.env.same rfl rfl rfl rfl) rfl (by simp) | exact wanted_zero (hr23.env.same rfl rfl rfl rfl) rfl (by simp [*])) rfl (callable 13 Try.func13) (hme) ?_
        rintro e24 w24 ⟨rfl, hb24⟩
        refine ⟨_, rfl, ?_⟩
        have h24 := hr23.ret hb24 145 (.v (.bool true)) rfl _ (hr23.all.below hb24) (by simp) rfl
        have hD24 := hD23.below' hb24
        refine seg cfg4_ok mixed PanicFree.body 1000 [false] [(141, true), (147, false)] h24.rebase (by first | trivial | exact HpRep.nil | assumption) (by kernel_rfl) fun s_ hs_ => ?_
        simp (maxSteps := 10000000) [SX.vc, SX.stop, SX.contS, SX.contB, SX.contW, SX.contR, SX.contD, SX.sxStep, SX.stepPure, SX.stepNew, SX.stepStore, SX.stepKeep, SX.guardIx, SX.evOp, SX.opd, SX.opds, SX.optOpd, SX.look, SX.putS, SX.gobs, SX.AllP, SX.leave, SX.lookC, SX.lookB, SX.lookT, SX.lookN, SX.findK, SX.evBuiltin, SX.ints, SX.foldI, SX.evBin, SX.evInt, SX.evStr, SX.evEq, SX.arith, SX.evLoad, SX.shapeUp, SX.evFieldAddr, SX.evField, SX.evIndexAddr, SX.evIndex, SX.evFill, SX.evBuild, SX.szs, SX.cellsV, SX.evNew, SX.evStore, SX.spliceL, SX.SV.cells, SX.evConv, SX.evSlice, SX.bnd, SX.evNil, SX.evUn, SX.evPick, SX.pickOpd, SX.popTo, SX.cnd, SX.env0, SX.TD.isAgg, SX.TD.isIface, SX.tails, SX.NotAgg, SX.evLookup, SX.evConvH, SX.evPtrEq, SX.isCells, SX.thaw, SX.frz, SX.fixB, SX.rootIx, SX.Froz, SX.frzStep, SX.fork, Go.Value.cells, Go.undef, cfg4, g2]
        refine ⟨by (unfold SX.Ob; first | trivial | omega | ((try simp only [SX.inK]); (try simp [SX.den, SX.IsU8, SX.AllP, *]); (try omega))), ?_⟩
        intro a25 w25 hr25' _
        have hr25 := h24.unbase hr25'
        exact post_rnd (d.S.length - (j + 1)) (by omega) ⟨j + 1, rfl, hjN, hD24.keepM hr25'.keeps (by simp [frameAt, mutB]; omega), hr25.re (by simp [envTo, SX.look, den, hv2]) (hr25.all.take 6) rfl rfl⟩
      · refine seg cfg4_ok mixed PanicFree.body 1000 [true, false] [(141, false)] h22.rebase (by first | trivial | exact HpRep.nil | assumption) (by kernel_rfl) fun s_ hs_ => ?_
        simp (maxSteps := 10000000) [SX.vc, SX.stop, SX.contS, SX.contB, SX.contW, SX.contR, SX.contD, SX.sxStep, SX.stepPure, SX.stepNew, SX.stepStore, SX.stepKeep, SX.guardIx, SX.evOp, SX.opd, SX.opds, SX.optOpd, SX.look, SX.putS, SX.gobs, SX.AllP, SX.leave, SX.lookC, SX.lookB, SX.lookT, SX.lookN, SX.findK, SX.evBuiltin, SX.ints, SX.foldI, SX.evBin, SX.evInt, SX.evStr, SX.evEq, SX.arith, SX.evLoad, SX.shapeUp, SX.evFieldAddr, SX.evField, SX.evIndexAddr, SX.evIndex, SX.evFill, SX.evBuild, SX.szs, SX.cellsV, SX.evNew, SX.evStore, SX.spliceL, SX.SV.cells, SX.evConv, SX.evSlice, SX.bnd, SX.evNil, SX.evUn, SX.evPick, SX.pickOpd, SX.popTo, SX.cnd, SX.env0, SX.TD.isAgg, SX.TD.isIface, SX.tails, SX.NotAgg, SX.evLookup, SX.evConvH, SX.evPtrEq, SX.isCells, SX.thaw, SX.frz, SX.fixB, SX.rootIx, SX.Froz, SX.frzStep, SX.fork, Go.Value.cells, Go.undef, cfg4, S7.spnC, hx, h0, coC]
        refine ⟨by (unfold SX.Ob; first | trivial | omega | ((try simp only [SX.inK]); (try simp [SX.den, SX.IsU8, SX.AllP, *]); (try omega))), ?_⟩
        intro a23 w23 hr23' _
        have hr23 := h22.unbase hr23'
        exact post_rnd (d.S.length - (j + 1)) (by omega) ⟨j + 1, rfl, hjN, hD21.keepM hr23'.keeps (by simp [frameAt, mutB]; omega), hr23.re (by simp [envTo, SX.look, den, hv2]) (hr23.all.take 6) rfl rfl⟩
    obtain rfl : j = d.S.length := by omega
    refine seg cfg4_ok mixed PanicFree.body 1000 [false] [] hr21.rebase (by first | trivial | exact HpRep.nil | assumption) (by kernel_rfl) fun s_ hs_ => ?_
    simp (maxSteps := 10000000) [SX.vc, SX.stop, SX.contS, SX.contB, SX.contW, SX.contR, SX.contD, SX.sxStep, SX.stepPure, SX.stepNew, SX.stepStore, SX.stepKeep, SX.guardIx, SX.evOp, SX.opd, SX.opds, SX.optOpd, SX.look, SX.putS, SX.gobs, SX.AllP, SX.leave, SX.lookC, SX.lookB, SX.lookT, SX.lookN, SX.findK, SX.evBuiltin, SX.ints, SX.foldI, SX.evBin, SX.evInt, SX.evStr, SX.evEq, SX.arith, SX.evLoad, SX.shapeUp, SX.evFieldAddr, SX.evField, SX.evIndexAddr, SX.evIndex, SX.evFill, SX.evBuild, SX.szs, SX.cellsV, SX.evNew, SX.evStore, SX.spliceL, SX.SV.cells, SX.evConv, SX.evSlice, SX.bnd, SX.evNil, SX.evUn, SX.evPick, SX.pickOpd, SX.popTo, SX.cnd, SX.env0, SX.TD.isAgg, SX.TD.isIface, SX.tails, SX.NotAgg, SX.evLookup, SX.evConvH, SX.evPtrEq, SX.isCells, SX.thaw, SX.frz, SX.fixB, SX.rootIx, SX.Froz, SX.frzStep, SX.fork, Go.Value.cells, Go.undef, cfg4, coC]
    refine ⟨by (unfold SX.Ob; first | trivial | omega | ((try simp only [SX.inK]); (try simp [SX.den, SX.IsU8, SX.AllP, *]); (try omega))), ?_⟩
    intro a22 w22 hr22' _
    have hr22 := hr21.unbase hr22'
    have hD22 := hD21.keepM hr22'.keeps (by simp [frameAt, mutB]; omega)
    refine post_loop (fun m a w' => ∃ j : Nat, m = d.W.length - j ∧ j ≤ d.W.length ∧ RdCo (fun x => w10.heap.size ≤ x ∧ x < w11.heap.size) w' (.slice dL d.T.L.length kL) (.slice dS d.S.length kS) (.slice dW d.W.length kW) d ∧ RepX (frame0 w) ⟨[(158, 0, .v (.int .i64 j)), (157, 0, .v (.int .i64 d.W.length)), (156, 0, .v (.slice dW d.W.length kW)), (43, 0, .v (.int .i64 k)), (42, 0, .v (.int .i64 L.length)), (41, 0, .v (.slice adE L.length cpE)), (11, 0, .mp 1 (sA + 1)), (10, 0, .v (.int .i64 d.T.last)), (14, 0, .ptr 4 sD 0), (8, 0, .ptr 0 sA 0), (7, 0, .v (.bool true)), (6, 0, .v (.bool false))], [(sA, true, .cells (coC c (.slice uL c.T.L.length iL) (.slice uS c.S.length iS) (.slice uW c.W.length iW)) 31), (sA + 1, true, .imap mm'), (b, false, .any), (sE, true, .any), (sD, true, .cells (coC d (.slice dL d.T.L.length kL) (.slice dS d.S.length kS) (.slice dW d.W.length kW)) 31), (sD + 1, true, .any)], 0, 0, 214, [], [], []⟩ a w') d.W.length ⟨0, rfl, by omega, hD22, hr22.re (by simp [envTo, SX.look]) hr22.all rfl rfl⟩ ?_
    rintro m a23 w23 ⟨j, rfl, hj, hD23, hr23⟩
    have q23 := hpLt hr23.all
    simp at q23
    by_cases hjN : j < d.W.length
    rotate_left
    · obtain rfl : j = d.W.length := by omega
      refine seg cfg4_ok mixed PanicFree.body 1000 [false] [] hr23.rebase (by first | trivial | exact HpRep.nil | assumption) (by kernel_rfl) fun s_ hs_ => ?_
      simp (maxSteps := 10000000) [SX.vc, SX.stop, SX.contS, SX.contB, SX.contW, SX.contR, SX.contD, SX.sxStep, SX.stepPure, SX.stepNew, SX.stepStore, SX.stepKeep, SX.guardIx, SX.evOp, SX.opd, SX.opds, SX.optOpd, SX.look, SX.putS, SX.gobs, SX.AllP, SX.leave, SX.lookC, SX.lookB, SX.lookT, SX.lookN, SX.findK, SX.evBuiltin, SX.ints, SX.foldI, SX.evBin, SX.evInt, SX.evStr, SX.evEq, SX.arith, SX.evLoad, SX.shapeUp, SX.evFieldAddr, SX.evField, SX.evIndexAddr, SX.evIndex, SX.evFill, SX.evBuild, SX.szs, SX.cellsV, SX.evNew, SX.evStore, SX.spliceL, SX.SV.cells, SX.evConv, SX.evSlice, SX.bnd, SX.evNil, SX.evUn, SX.evPick, SX.pickOpd, SX.popTo, SX.cnd, SX.env0, SX.TD.isAgg, SX.TD.isIface, SX.tails, SX.NotAgg, SX.evLookup, SX.evConvH, SX.evPtrEq, SX.isCells, SX.thaw, SX.frz, SX.fixB, SX.rootIx, SX.Froz, SX.frzStep, SX.fork, Go.Value.cells, Go.undef, cfg4, coC]
      refine ⟨by (unfold SX.Ob; first | trivial | omega | ((try simp only [SX.inK]); (try simp [SX.den, SX.IsU8, SX.AllP, *]); (try omega))), ?_⟩
      intro a24 w24 hr24' _
      have hr24 := hr23.unbase hr24'
      have hD24 := hD23.keepM hr24'.keeps (by simp [frameAt, mutB]; omega)
      exact post_rnd (L.length - (k + 1)) (by omega) ⟨k + 1, d, .slice dL d.T.L.length kL, .slice dS d.S.length kS, .slice dW d.W.length kW, mm', F', rfl, by omega, Id, hF', hmm', hD24.mono fun x _ h => ⟨by omega, by omega, by omega⟩, hr24.re (by simp [envTo, SX.look, den]) (hr24.all.take 2) rfl rfl⟩
    obtain ⟨b2, o2, cap2, u2, fz2, hP2, hv, hrep2⟩ := hD23.2.2.opn hjN
    simp only [Value.slice.injEq] at hv
    obtain ⟨hv2, _, hv3⟩ := hv
    have hcapW : d.W.length ≤ kW := hD23.2.2.cap rfl
    obtain ⟨x, hx⟩ : ∃ x, nth fen0 d.W j = x := ⟨_, rfl⟩
    obtain ⟨g1, g2, g3, g4, g5⟩ := own_wait Id (f := x) (hx ▸ nth_mem hjN)
    have hr23b := hr23.top 156 (.sl 6 b2 o2 0 d.W.length kW 3) rfl (by simp [den, hv2])
    have h24 := hr23b.see [(sA, true, .cells (coC c (.slice uL c.T.L.length iL) (.slice uS c.S.length iS) (.slice uW c.W.length iW)) 31), (sA + 1, true, .imap mm'), (b, false, .any), (sE, true, .any), (sD, true, .cells [.v (.int .i64 d.T.last), .v (.int .i64 d.T.now), .v (.slice dL d.T.L.length kL), .v (.slice dS d.S.length kS), .sl 6 b2 o2 0 d.W.length kW 3, .v (.int .i64 d.ttl), .v (.int .i64 d.zn)] 31), (sD + 1, true, .any), (b2, false, .arr o2 d.W.length (fun j => fenC (nth fen0 d.W j)) 3 u2 fz2)] ⟨⟨hr23b.all.1.1, hr23b.all.1.2.1, by simp; omega⟩, ⟨hr23b.all.2.1.1, hr23b.all.2.1.2.1, by simp; omega⟩, ⟨hr23b.all.2.2.1.1, hr23b.all.2.2.1.2.1, by simp; omega⟩, ⟨hr23b.all.2.2.2.1.1, hr23b.all.2.2.2.1.2.1, by simp; omega⟩, ⟨(by have h := hr23b.all.2.2.2.2.1.1; rw [hv2] at h; exact h), hr23b.all.2.2.2.2.1.2.1, by simp; omega⟩, ⟨hr23b.all.2.2.2.2.2.1.1, hr23b.all.2.2.2.2.2.1.2.1, by simp; omega⟩, ⟨hrep2, by simp, by simp⟩, trivial⟩
    refine seg cfg4_ok mixed PanicFree.body 1000 [true] [] h24.rebase (by first | trivial | exact HpRep.nil | assumption) (by kernel_rfl) fun sF hsF => ?_
    simp (maxSteps := 10000000) [SX.vc, SX.stop, SX.contS, SX.contB, SX.contW, SX.contR, SX.contD, SX.sxStep, SX.stepPure, SX.stepNew, SX.stepStore, SX.stepKeep, SX.guardIx, SX.evOp, SX.opd, SX.opds, SX.optOpd, SX.look, SX.putS, SX.gobs, SX.AllP, SX.leave, SX.lookC, SX.lookB, SX.lookT, SX.lookN, SX.findK, SX.evBuiltin, SX.ints, SX.foldI, SX.evBin, SX.evInt, SX.evStr, SX.evEq, SX.arith, SX.evLoad, SX.shapeUp, SX.evFieldAddr, SX.evField, SX.evIndexAddr, SX.evIndex, SX.evFill, SX.evBuild, SX.szs, SX.cellsV, SX.evNew, SX.evStore, SX.spliceL, SX.SV.cells, SX.evConv, SX.evSlice, SX.bnd, SX.evNil, SX.evUn, SX.evPick, SX.pickOpd, SX.popTo, SX.cnd, SX.env0, SX.TD.isAgg, SX.TD.isIface, SX.tails, SX.NotAgg, SX.evLookup, SX.evConvH, SX.evPtrEq, SX.isCells, SX.thaw, SX.frz, SX.fixB, SX.rootIx, SX.Froz, SX.frzStep, SX.fork, Go.Value.cells, Go.undef, cfg4, fenC, hx, coC]
    refine ⟨by (unfold SX.Ob; first | trivial | omega | ((try simp only [SX.inK]); (try simp [SX.den, SX.IsU8, SX.AllP, *]); (try omega))), ?_⟩
    intro a25 w25 hr25' _
    have hr25 := h24.unbase hr25'
    have hD25 := hD23.keepM hr25'.keeps (by simp [frameAt, mutB]; omega)
    have hme := member_ok w25 d _ (.slice dS d.S.length kS) (.slice (some ⟨b2, o2, none⟩) d.W.length kW) x.h hD25.1 (by omega)
    rw [decide_eq_true g1] at hme
    refine post_call 13 [.ag [.v (.int .i64 d.T.last), .v (.int .i64 d.T.now), .v (.slice dL d.T.L.length kL), .v (.slice dS d.S.length kS), .sl 6 b2 o2 0 d.W.length kW 3, .v (.int .i64 d.ttl), .v (.int .i64 d.zn)], .v (.int .i64 x.h)] hr25 (by first | exact wanted_none rfl | exact wanted_zero (hr25.env.same rfl rfl rfl rfl) rfl (by simp) | exact wanted_zero (hr25.env.same rfl rfl rfl rfl) rfl (by simp [*])) rfl (callable 13 Try.func13) (hme) ?_
    rintro e26 w26 ⟨rfl, hb26⟩
    refine ⟨_, rfl, ?_⟩
    have h26 := hr25.ret hb26 166 (.v (.bool true)) rfl _ (hr25.all.below hb26) (by simp) rfl
    have hD26 := hD25.below' hb26
    refine seg cfg4_ok mixed PanicFree.body 1000 [false] [(168, false), (174, false), (179, false)] h26.rebase (by first | trivial | exact HpRep.nil | assumption) (by kernel_rfl) fun s_ hs_ => ?_
    simp (maxSteps := 10000000) [SX.vc, SX.stop, SX.contS, SX.contB, SX.contW, SX.contR, SX.contD, SX.sxStep, SX.stepPure, SX.stepNew, SX.stepStore, SX.stepKeep, SX.guardIx, SX.evOp, SX.opd, SX.opds, SX.optOpd, SX.look, SX.putS, SX.gobs, SX.AllP, SX.leave, SX.lookC, SX.lookB, SX.lookT, SX.lookN, SX.findK, SX.evBuiltin, SX.ints, SX.foldI, SX.evBin, SX.evInt, SX.evStr, SX.evEq, SX.arith, SX.evLoad, SX.shapeUp, SX.evFieldAddr, SX.evField, SX.evIndexAddr, SX.evIndex, SX.evFill, SX.evBuild, SX.szs, SX.cellsV, SX.evNew, SX.evStore, SX.spliceL, SX.SV.cells, SX.evConv, SX.evSlice, SX.bnd, SX.evNil, SX.evUn, SX.evPick, SX.pickOpd, SX.popTo, SX.cnd, SX.env0, SX.TD.isAgg, SX.TD.isIface, SX.tails, SX.NotAgg, SX.evLookup, SX.evConvH, SX.evPtrEq, SX.isCells, SX.thaw, SX.frz, SX.fixB, SX.rootIx, SX.Froz, SX.frzStep, SX.fork, Go.Value.cells, Go.undef, cfg4, g2, g3, g4, coC]
    refine ⟨by (unfold SX.Ob; first | trivial | omega | ((try simp only [SX.inK]); (try simp [SX.den, SX.IsU8, SX.AllP, *]); (try omega))), ?_⟩
    intro a27 w27 hr27' _
    have hr27 := h26.unbase hr27'
    have hD27 := hD26.keepM hr27'.keeps (by simp [frameAt, mutB]; omega)
    have how := owner_ok w27 d _ (.slice dS d.S.length kS) (.slice (some ⟨b2, o2, none⟩) d.W.length kW) x.z hD27.1 (by omega)
    rw [g5] at how
    refine post_call 14 [.ag [.v (.int .i64 d.T.last), .v (.int .i64 d.T.now), .v (.slice dL d.T.L.length kL), .v (.slice dS d.S.length kS), .sl 6 b2 o2 0 d.W.length kW 3, .v (.int .i64 d.ttl), .v (.int .i64 d.zn)], .v (.int .i64 x.z)] hr27 (by first | exact wanted_none rfl | exact wanted_zero (hr27.env.same rfl rfl rfl rfl) rfl (by simp) | exact wanted_zero (hr27.env.same rfl rfl rfl rfl) rfl (by simp [*])) rfl (callable 14 Try.func14) (how) ?_
    rintro e28 w28 ⟨rfl, hb28⟩
    refine ⟨_, rfl, ?_⟩
    have h28 := hr27.ret hb28 190 (.tu [.v (.int .i64 (-1)), .v (.int .i64 (ownE d x.z))]) rfl _ (hr27.all.below hb28) (by simp) rfl
    have hD28 := hD27.below' hb28
    have q27 := hpLt hr27.all
    simp at q27
    refine seg cfg4_ok mixed PanicFree.body 1000 [] [] h28.rebase (by first | trivial | exact HpRep.nil | assumption) (by kernel_rfl) fun s_ hs_ => ?_
    simp (maxSteps := 10000000) [SX.vc, SX.stop, SX.contS, SX.contB, SX.contW, SX.contR, SX.contD, SX.sxStep, SX.stepPure, SX.stepNew, SX.stepStore, SX.stepKeep, SX.guardIx, SX.evOp, SX.opd, SX.opds, SX.optOpd, SX.look, SX.putS, SX.gobs, SX.AllP, SX.leave, SX.lookC, SX.lookB, SX.lookT, SX.lookN, SX.findK, SX.evBuiltin, SX.ints, SX.foldI, SX.evBin, SX.evInt, SX.evStr, SX.evEq, SX.arith, SX.evLoad, SX.shapeUp, SX.evFieldAddr, SX.evField, SX.evIndexAddr, SX.evIndex, SX.evFill, SX.evBuild, SX.szs, SX.cellsV, SX.evNew, SX.evStore, SX.spliceL, SX.SV.cells, SX.evConv, SX.evSlice, SX.bnd, SX.evNil, SX.evUn, SX.evPick, SX.pickOpd, SX.popTo, SX.cnd, SX.env0, SX.TD.isAgg, SX.TD.isIface, SX.tails, SX.NotAgg, SX.evLookup, SX.evConvH, SX.evPtrEq, SX.isCells, SX.thaw, SX.frz, SX.fixB, SX.rootIx, SX.Froz, SX.frzStep, SX.fork, Go.Value.cells, Go.undef, cfg4]
    refine ⟨by (unfold SX.Ob; first | trivial | omega | ((try simp only [SX.inK]); (try simp [SX.den, SX.IsU8, SX.AllP, *]); (try omega))), ?_⟩
    intro a29 w29 hr29' _
    have hr29 := h28.unbase hr29'
    have hD29 := hD28.keepM hr29'.keeps (by simp [frameAt, mutB]; omega)
    refine post_loop (fun m a w' => ∃ i : Nat, m = j - i ∧ i ≤ j ∧ RdCo (fun x => w10.heap.size ≤ x ∧ x < w11.heap.size) w' (.slice dL d.T.L.length kL) (.slice dS d.S.length kS) (.slice dW d.W.length kW) d ∧ RepX (frame0 w) ⟨[(198, 0, .v (.int .i64 i)), (197, 0, .v (.int .i64 j)), (196, 0, .sl 6 b2 o2 0 j kW 3), (23, 0, .v (.int .i64 (-1))), (22, 0, .ptr 7 sF 0), (158, 0, .v (.int .i64 j)), (157, 0, .v (.int .i64 d.W.length)), (156, 0, .v (.slice dW d.W.length kW)), (43, 0, .v (.int .i64 k)), (42, 0, .v (.int .i64 L.length)), (41, 0, .v (.slice adE L.length cpE)), (11, 0, .mp 1 (sA + 1)), (10, 0, .v (.int .i64 d.T.last)), (14, 0, .ptr 4 sD 0), (8, 0, .ptr 0 sA 0), (7, 0, .v (.bool true)), (6, 0, .v (.bool false))], [(sA, true, .cells (coC c (.slice uL c.T.L.length iL) (.slice uS c.S.length iS) (.slice uW c.W.length iW)) 31), (sA + 1, true, .imap mm'), (b, false, .any), (sE, true, .any), (sD, true, .cells [.v (.int .i64 d.T.last), .v (.int .i64 d.T.now), .v (.slice dL d.T.L.length kL), .v (.slice dS d.S.length kS), .sl 6 b2 o2 0 d.W.length kW 3, .v (.int .i64 d.ttl), .v (.int .i64 d.zn)] 31), (sD + 1, true, .any), (b2, false, .arr o2 d.W.length (fun j => fenC (nth fen0 d.W j)) 3 u2 fz2), (sF, true, .cells (fenC x) 52)], 0, 0, 214, [], [], []⟩ a w') j ⟨0, rfl, by omega, hD29, hr29.re (by simp [envTo, SX.look, den, hv2]) hr29.all rfl rfl⟩ ?_
    rintro m a30 w30 ⟨i, rfl, hi, hD30, hr30⟩
    have q30 := hpLt hr30.all
    simp at q30
    by_cases hij : i < j
    · obtain ⟨y, hy⟩ : ∃ y, nth fen0 d.W i = y := ⟨_, rfl⟩
      have hyx : ¬ y.z = x.z := by
        have := pw_nth Id.wp hij hjN
        rw [hy, hx] at this
        exact this
      have hiW : i < d.W.length := by omega
      refine seg cfg4_ok mixed PanicFree.body 1000 [true, false] [] hr30.rebase (by first | trivial | exact HpRep.nil | assumption) (by kernel_rfl) fun s_ hs_ => ?_
      simp (maxSteps := 10000000) [SX.vc, SX.stop, SX.contS, SX.contB, SX.contW, SX.contR, SX.contD, SX.sxStep, SX.stepPure, SX.stepNew, SX.stepStore, SX.stepKeep, SX.guardIx, SX.evOp, SX.opd, SX.opds, SX.optOpd, SX.look, SX.putS, SX.gobs, SX.AllP, SX.leave, SX.lookC, SX.lookB, SX.lookT, SX.lookN, SX.findK, SX.evBuiltin, SX.ints, SX.foldI, SX.evBin, SX.evInt, SX.evStr, SX.evEq, SX.arith, SX.evLoad, SX.shapeUp, SX.evFieldAddr, SX.evField, SX.evIndexAddr, SX.evIndex, SX.evFill, SX.evBuild, SX.szs, SX.cellsV, SX.evNew, SX.evStore, SX.spliceL, SX.SV.cells, SX.evConv, SX.evSlice, SX.bnd, SX.evNil, SX.evUn, SX.evPick, SX.pickOpd, SX.popTo, SX.cnd, SX.env0, SX.TD.isAgg, SX.TD.isIface, SX.tails, SX.NotAgg, SX.evLookup, SX.evConvH, SX.evPtrEq, SX.isCells, SX.thaw, SX.frz, SX.fixB, SX.rootIx, SX.Froz, SX.frzStep, SX.fork, Go.Value.cells, Go.undef, cfg4, fenC, hy, hyx]
      refine ⟨by (unfold SX.Ob; first | trivial | omega | ((try simp only [SX.inK]); (try simp [SX.den, SX.IsU8, SX.AllP, *]); (try omega))), ?_⟩
      intro a31 w31 hr31' _
      have hr31 := hr30.unbase hr31'
      exact post_rnd (j - (i + 1)) (by omega) ⟨i + 1, rfl, hij, hD30.keepM hr31'.keeps (by simp [frameAt, mutB]; omega), hr31.re (by simp [envTo, SX.look, den, hv2]) (hr31.all.take 8) rfl rfl⟩
    obtain rfl : i = j := by omega
    refine seg cfg4_ok mixed PanicFree.body 1000 [false, false] [] hr30.rebase (by first | trivial | exact HpRep.nil | assumption) (by kernel_rfl) fun s_ hs_ => ?_
    simp (maxSteps := 10000000) [SX.vc, SX.stop, SX.contS, SX.contB, SX.contW, SX.contR, SX.contD, SX.sxStep, SX.stepPure, SX.stepNew, SX.stepStore, SX.stepKeep, SX.guardIx, SX.evOp, SX.opd, SX.opds, SX.optOpd, SX.look, SX.putS, SX.gobs, SX.AllP, SX.leave, SX.lookC, SX.lookB, SX.lookT, SX.lookN, SX.findK, SX.evBuiltin, SX.ints, SX.foldI, SX.evBin, SX.evInt, SX.evStr, SX.evEq, SX.arith, SX.evLoad, SX.shapeUp, SX.evFieldAddr, SX.evField, SX.evIndexAddr, SX.evIndex, SX.evFill, SX.evBuild, SX.szs, SX.cellsV, SX.evNew, SX.evStore, SX.spliceL, SX.SV.cells, SX.evConv, SX.evSlice, SX.bnd, SX.evNil, SX.evUn, SX.evPick, SX.pickOpd, SX.popTo, SX.cnd, SX.env0, SX.TD.isAgg, SX.TD.isIface, SX.tails, SX.NotAgg, SX.evLookup, SX.evConvH, SX.evPtrEq, SX.isCells, SX.thaw, SX.frz, SX.fixB, SX.rootIx, SX.Froz, SX.frzStep, SX.fork, Go.Value.cells, Go.undef, cfg4]
    refine ⟨by (unfold SX.Ob; first | trivial | omega | ((try simp only [SX.inK]); (try simp [SX.den, SX.IsU8, SX.AllP, *]); (try omega))), ?_⟩
    intro a32 w32 hr32' _
    have hr32 := hr30.unbase hr32'
    have hsee := hr32.see [(sA, true, .cells (coC c (.slice uL c.T.L.length iL) (.slice uS c.S.length iS) (.slice uW c.W.length iW)) 31), (sA + 1, true, .imap mm'), (b, false, .any), (sE, true, .any), (sD, true, .cells (coC d (.slice dL d.T.L.length kL) (.slice dS d.S.length kS) (.slice dW d.W.length kW)) 31), (sD + 1, true, .any)] ⟨⟨hr32.all.1.1, hr32.all.1.2.1, by simp; omega⟩, ⟨hr32.all.2.1.1, hr32.all.2.1.2.1, by simp; omega⟩, ⟨hr32.all.2.2.1.1, hr32.all.2.2.1.2.1, by simp; omega⟩, ⟨hr32.all.2.2.2.1.1, hr32.all.2.2.2.1.2.1, by simp; omega⟩, ⟨(by have h := hr32.all.2.2.2.2.1.1; rw [hv2]; exact h), hr32.all.2.2.2.2.1.2.1, by simp⟩, ⟨hr32.all.2.2.2.2.2.1.1, hr32.all.2.2.2.2.2.1.2.1, by simp⟩, trivial⟩
    exact post_rnd (d.W.length - (i + 1)) (by omega) ⟨i + 1, rfl, hjN, hD30.keepM hr32'.keeps (by simp [frameAt, mutB]; omega), hsee.re (by simp [envTo, SX.look, den, hv2]) hsee.all rfl rfl⟩
end Go.Proofs.C8
