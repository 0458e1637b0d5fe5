/- CzE: texts of this proof, joined. -/
import Derived.Test.YtbhkpmnieopddaaF2
set_option linter.unusedVariables false
set_option linter.unusedSimpArgs false
set_option linter.unusedSectionVars false
namespace Go.Proofs.C8
open Go Go.Proofs Go.SX Go.RowKit Go.Proofs.L6
theorem RdCo.keepM {P : Nat → Prop} {w1 w2 : World} {M : List Nat} {vL vS vW : Value} {c : Co} (h : RdCo P w1 vL vS vW c) (hk : KeepsTo w1 M w2) (hM : ∀ x ∈ M, ¬ P x) : RdCo P w2 vL vS vW c := ⟨h.1.keep hk hM, h.2.1.keep hk hM, h.2.2.keep hk hM⟩
theorem RdCo.below' {P : Nat → Prop} {w1 w2 : World} {vL vS vW : Value} {c : Co} (h : RdCo P w1 vL vS vW c) (hb : Below w1.heap.size w1 w2) : RdCo P w2 vL vS vW c := ⟨h.1.below hb, h.2.1.below hb, h.2.2.below hb⟩
def spEv (g f t : Int) : Evt := ⟨4, g, 0, 0, f, t, 0, 0⟩
def okS (g f t : Int) (s : Spn) : Prop := s.ow < 0 ∨ s.ow = g ∨ s.to ≤ f ∨ t ≤ s.fr
instance (g f t : Int) (s : Spn) : Decidable (okS g f t s) := by unfold okS; infer_instance
def inB (f t : Int) : Prop := 0 ≤ f ∧ f < t ∧ t ≤ 60
instance (f t : Int) : Decidable (inB f t) := by unfold inB; infer_instance
theorem Inv.within {n : Nat} {c : Co} (I : Inv n c) (f t : Int) : S7.Within c.S f t ↔ inB f t := by
  unfold S7.Within inB
  rw [I.e60]
  exact ⟨fun h => h.2, fun h => ⟨I.S, h⟩⟩
theorem Inv.chkAt {n : Nat} {c : Co} (I : Inv n c) {s : Spn} (hs : s ∈ c.S) : s.fr < s.to ∧ S7.MayO s.ow s.ep ∧ S7.HasS c.S s.fr (s.ow, s.ep) := by
  obtain ⟨j, hj, hjs⟩ := List.mem_iff_getElem.1 hs
  have h1 := S7.chkS_nth I.S.1 hj
  rw [nth_lt hj, hjs] at h1
  exact ⟨h1.1, h1.2.2, s, hs, ⟨Int.le_refl _, h1.1⟩, rfl⟩
theorem span_iff {n : Nat} {c : Co} (I : Inv n c) {g f t : Int} (h0 : 0 ≤ g) (h8 : g < 8) : (doA c (spEv g f t)).er = 0 ↔ memP c g ∧ inB f t ∧ ∀ s ∈ c.S, okS g f t s := by
  have hm : may (spEv g f t) := ⟨show (1 : Int) ≤ 4 by decide, show (4 : Int) ≤ 8 by decide, fun _ => ⟨h0, h8⟩⟩
  have hA : doA c (spEv g f t) = spanA c (spEv g f t) := by
    unfold doA
    rw [if_pos hm]
    rfl
  rw [hA]
  have hl := I.T.2.1
  have heldF : heldS c.S (spEv g f t) = false ↔ ∀ s ∈ c.S, okS g f t s := by
    unfold heldS
    rw [List.any_eq_false]
    refine forall_congr' fun s => forall_congr' fun hs => ?_
    have h1 := (I.chkAt hs).2.1
    have hq : spanQ (spEv g f t) s = decide (s.ow ≠ -1 ∧ s.ow ≠ g) := rfl
    have hb : (decide (s.fr < (spEv g f t).to ∧ (spEv g f t).fr < s.to)) = decide (s.fr < t ∧ f < s.to) := rfl
    rw [hq, hb]
    unfold okS
    rw [Bool.and_eq_true, decide_eq_true_eq, decide_eq_true_eq]
    rcases h1 with ⟨h1, _⟩ | ⟨h1, _⟩
    · exact ⟨fun _ => .inl (by omega), fun _ h => absurd h1 h.1.1⟩
    · constructor
      · intro h
        by_cases h2 : s.ow = g
        · exact .inr (.inl h2)
        · by_cases h3 : s.to ≤ f
          · exact .inr (.inr (.inl h3))
          · by_cases h4 : t ≤ s.fr
            · exact .inr (.inr (.inr h4))
            · exact absurd ⟨⟨by omega, h2⟩, by omega, by omega⟩ h
      · rintro h ⟨⟨_, h2⟩, h3, h4⟩
        omega
  constructor
  · intro he
    obtain ⟨a1, a2, a3, _, _⟩ := spanA_0 he
    exact ⟨a1, (I.within f t).1 a2, heldF.1 a3⟩
  · rintro ⟨a1, a2, a3⟩
    have hW : S7.Within c.S f t := (I.within f t).2 a2
    have hG : S7.giveE c.S f t g (c.T.last + 1) = 0 := by
      have hM : S7.MayO g (c.T.last + 1) := .inr ⟨h0, h8, by omega⟩
      rcases S7.giveE_cases c.S f t g (c.T.last + 1) with ⟨_, h⟩ | ⟨_, _, ⟨_, h⟩ | ⟨h, _⟩⟩
      · exact absurd ⟨hW, hM⟩ h
      · obtain ⟨_, b, u, _, _, hu, hu1, hu2⟩ := (S7.old_iff hW).1 h
        rcases I.os b u hu with h3 | ⟨_, h3⟩
        · exact absurd h3 hu1
        · omega
      · exact h
    have a1' : memP c (spEv g f t).h := a1
    have hW' : S7.Within c.S (spEv g f t).fr (spEv g f t).to := hW
    have hH' : ¬ heldS c.S (spEv g f t) = true := by rw [heldF.2 a3]; decide
    have hG' : S7.giveE c.S (spEv g f t).fr (spEv g f t).to (spEv g f t).h (c.T.last + 1) = 0 := hG
    unfold spanA
    rw [if_neg (not_not_intro a1'), if_neg (not_not_intro hW'), if_neg hH', if_neg (not_not_intro hG')]
    rfl
theorem span_given {n : Nat} {c : Co} (I : Inv n c) {g f t : Int} (h0 : 0 ≤ g) (h8 : g < 8) (he : (doA c (spEv g f t)).er = 0) :
    doA c (spEv g f t) = okA (c.T.last + 1) ∧ ∀ d, doC c (spEv g f t) = d → Inv (n + 1) d ∧ d.T.last = c.T.last + 1 ∧ (doA d (spEv g f t)).er = 0 ∧ ∀ k, 0 ≤ k → k < 8 → k ≠ g → (doA d (spEv k f t)).er ≠ 0 := by
  have hm : may (spEv g f t) := ⟨show (1 : Int) ≤ 4 by decide, show (4 : Int) ≤ 8 by decide, fun _ => ⟨h0, h8⟩⟩
  have hA : doA c (spEv g f t) = spanA c (spEv g f t) := by
    unfold doA
    rw [if_pos hm]
    rfl
  have he' := he
  rw [hA] at he'
  obtain ⟨a1, a2, a3, a4, a5⟩ := spanA_0 he'
  refine ⟨hA.trans a5, fun d hd => ?_⟩
  have hC : doC c (spEv g f t) = spanC c (spEv g f t) := by
    unfold doC
    rw [if_pos he]
    rfl
  rw [hC] at hd
  have Id : Inv (n + 1) d := hd ▸ inv_span I he'
  have a4' : S7.giveE c.S f t g (c.T.last + 1) = 0 := a4
  obtain ⟨g1, g2, _, g4⟩ := S7.give_facts a4'
  have hdS : d.S = S7.giveL c.S f t g (c.T.last + 1) := by rw [← hd]; rfl
  have hdT : d.T = { c.T with last := c.T.last + 1 } := by rw [← hd]; rfl
  have hin : inB f t := (I.within f t).1 a2
  have hL : d.T.last = c.T.last + 1 := by rw [hdT]
  have own : ∀ s ∈ d.S, ¬ (s.to ≤ f ∨ t ≤ s.fr) → s.ow = g := fun s hs hn => by
    obtain ⟨c1, _, c3⟩ := Id.chkAt hs
    obtain ⟨b, hb1, hb2, hb3, hb4⟩ : ∃ b : Int, s.fr ≤ b ∧ b < s.to ∧ f ≤ b ∧ b < t := by
      by_cases h : s.fr ≤ f
      · exact ⟨f, h, by omega, Int.le_refl _, hin.2.1⟩
      · exact ⟨s.fr, Int.le_refl _, c1, by omega, by omega⟩
    have h2 : S7.HasS d.S b (s.ow, s.ep) := ⟨s, hs, ⟨hb1, hb2⟩, rfl⟩
    rw [hdS] at h2
    have h2 := (g4 b _).1 h2
    rw [if_pos ⟨hb3, hb4⟩] at h2
    exact congrArg Prod.fst h2
  have hmem : ∀ k, memP d k ↔ memP c k := fun k => by
    rw [Id.mem, I.mem, hdT]
  refine ⟨Id, hL, (span_iff Id h0 h8).2 ⟨(hmem g).2 a1, hin, fun s hs => ?_⟩, fun k k0 k8 hkg hk => ?_⟩
  · by_cases h : s.to ≤ f ∨ t ≤ s.fr
    · exact .inr (.inr h)
    · exact .inr (.inl (own s hs h))
  · obtain ⟨_, _, b3⟩ := (span_iff Id k0 k8).1 hk
    have h1 : S7.HasS d.S f (g, c.T.last + 1) := by
      rw [hdS, g4, if_pos ⟨Int.le_refl _, hin.2.1⟩]
    obtain ⟨s, hs, hi, hsu⟩ := h1
    have ho : s.ow = g := congrArg Prod.fst hsu
    have := b3 s hs
    unfold okS at this
    have := hi.1
    have := hi.2
    have := hin.2.1
    omega
def okSB (g f t : Int) (s : Spn) : Bool := decide (s.ow < 0) || s.ow == g || decide (s.to ≤ f) || decide (t ≤ s.fr)
def freeB (g f t : Int) (S : List Spn) (k : Nat) : Bool := (decide (0 ≤ f) && decide (f < t) && decide (t ≤ 60)) && (S.take k).all (okSB g f t)
theorem freeB_succ {g f t : Int} {S : List Spn} {k : Nat} {x : Spn} (h : k < S.length) (hx : nth S7.spn0 S k = x) : freeB g f t S (k + 1) = (freeB g f t S k && okSB g f t x) := by
  unfold freeB
  rw [take_nth (d := S7.spn0) h, hx, List.all_append]
  simp [Bool.and_assoc]
theorem freeB_iff {g f t : Int} {S : List Spn} : freeB g f t S S.length = true ↔ inB f t ∧ ∀ s ∈ S, okS g f t s := by
  unfold freeB
  rw [List.take_length]
  simp only [Bool.and_eq_true, decide_eq_true_eq, List.all_eq_true, okSB, Bool.or_eq_true, beq_iff_eq, inB, okS, and_assoc, or_assoc]
set_option maxRecDepth 100000 in
set_option maxHeartbeats 64000000 in
theorem spans_ok {P : Nat → Prop} (w : World) (z t host from_ to_ : Int) (v : Value) (L : List Evt) (hL : RdE P w v L) (hn : L.length ≤ 1000000000000000) : Calls Try.prog 5 (denL [.v (.int .i64 z), .v (.int .i64 t), .v v, .v (.int .i64 host), .v (.int .i64 from_), .v (.int .i64 to_)]).toArray w (Ret w (.v (.bool true))) := by
  obtain ⟨adE, cpE, rfl⟩ := hL.slice
  refine enter (F := frame0 w) Try.func5 rfl [.v (.int .i64 z), .v (.int .i64 t), .v (.slice adE L.length cpE), .v (.int .i64 host), .v (.int .i64 from_), .v (.int .i64 to_)] [] (by simp [Try.f5]) trivial (keeps0 w) fun a hr => ?_
  have q8 := tmod_pos (x := host) (n := 8) (by decide)
  have r8 : host.tmod 8 < 8 := Int.tmod_lt_of_pos _ (by decide)
  have s8 : -8 < host.tmod 8 := by
    have := Int.lt_tmod_of_pos host (show (0 : Int) < 8 by decide)
    omega
  refine seg cfg5_ok mixed PanicFree.body 1000 [] [] hr (by first | trivial | exact HpRep.nil | assumption) (by kernel_rfl) fun s_ hs_ => ?_
  simp (maxSteps := 10000000) [SX.vc, SX.stop, SX.contS, SX.contB, SX.contW, SX.contR, SX.contD, SX.sxStep, SX.stepPure, SX.stepNew, SX.stepStore, SX.stepKeep, SX.guardIx, SX.evOp, SX.opd, SX.opds, SX.optOpd, SX.look, SX.putS, SX.gobs, SX.AllP, SX.leave, SX.lookC, SX.lookB, SX.lookT, SX.lookN, SX.findK, SX.evBuiltin, SX.ints, SX.foldI, SX.evBin, SX.evInt, SX.evStr, SX.evEq, SX.arith, SX.evLoad, SX.shapeUp, SX.evFieldAddr, SX.evField, SX.evIndexAddr, SX.evIndex, SX.evFill, SX.evBuild, SX.szs, SX.cellsV, SX.evNew, SX.evStore, SX.spliceL, SX.SV.cells, SX.evConv, SX.evSlice, SX.bnd, SX.evNil, SX.evUn, SX.evPick, SX.pickOpd, SX.popTo, SX.cnd, SX.env0, SX.TD.isAgg, SX.TD.isIface, SX.tails, SX.NotAgg, SX.evLookup, SX.evConvH, SX.evPtrEq, SX.isCells, SX.thaw, SX.frz, SX.fixB, SX.rootIx, SX.Froz, SX.frzStep, SX.fork, Go.Value.cells, Go.undef, cfg5, Try.f5]
  refine ⟨by (unfold SX.Ob; first | trivial | omega | ((try simp only [SX.inK]); (try simp [SX.den, SX.IsU8, SX.AllP, *]); (try omega))), ?_⟩
  intro a1 w1 hr1 _
  refine post_call 7 [] hr1 (by first | exact wanted_none rfl | exact wanted_zero (hr1.env.same rfl rfl rfl rfl) rfl (by simp) | exact wanted_zero (hr1.env.same rfl rfl rfl rfl) rfl (by simp [*])) rfl (callable 7 Try.func7) (live_ok w1) ?_
  rintro e2 w2 ⟨rfl, hb2⟩
  refine ⟨_, rfl, ?_⟩
  have h2 := hr1.ret hb2 27 (.v (.bool true)) rfl _ (hr1.all.below hb2) (by simp) rfl
  refine seg cfg5_ok mixed PanicFree.body 1000 [] [] h2 (by first | trivial | exact HpRep.nil | assumption) (by kernel_rfl) fun s_ hs_ => ?_
  simp (maxSteps := 10000000) [SX.vc, SX.stop, SX.contS, SX.contB, SX.contW, SX.contR, SX.contD, SX.sxStep, SX.stepPure, SX.stepNew, SX.stepStore, SX.stepKeep, SX.guardIx, SX.evOp, SX.opd, SX.opds, SX.optOpd, SX.look, SX.putS, SX.gobs, SX.AllP, SX.leave, SX.lookC, SX.lookB, SX.lookT, SX.lookN, SX.findK, SX.evBuiltin, SX.ints, SX.foldI, SX.evBin, SX.evInt, SX.evStr, SX.evEq, SX.arith, SX.evLoad, SX.shapeUp, SX.evFieldAddr, SX.evField, SX.evIndexAddr, SX.evIndex, SX.evFill, SX.evBuild, SX.szs, SX.cellsV, SX.evNew, SX.evStore, SX.spliceL, SX.SV.cells, SX.evConv, SX.evSlice, SX.bnd, SX.evNil, SX.evUn, SX.evPick, SX.pickOpd, SX.popTo, SX.cnd, SX.env0, SX.TD.isAgg, SX.TD.isIface, SX.tails, SX.NotAgg, SX.evLookup, SX.evConvH, SX.evPtrEq, SX.isCells, SX.thaw, SX.frz, SX.fixB, SX.rootIx, SX.Froz, SX.frzStep, SX.fork, Go.Value.cells, Go.undef, cfg5]
  refine ⟨by (unfold SX.Ob; first | trivial | omega | ((try simp only [SX.inK]); (try simp [SX.den, SX.IsU8, SX.AllP, *]); (try omega))), ?_⟩
  intro a3 w3 hr3 _
  refine post_call 8 [.v (.slice adE L.length cpE)] hr3 (by first | exact wanted_none rfl | exact wanted_zero (hr3.env.same rfl rfl rfl rfl) rfl (by simp) | exact wanted_zero (hr3.env.same rfl rfl rfl rfl) rfl (by simp [*])) rfl (callable 8 Try.func8) (few_ok w3 _ L (hL.below hr3.keeps.toBelow) hn) ?_
  rintro e4 w4 ⟨rfl, hb4⟩
  refine ⟨_, rfl, ?_⟩
  have h4 := hr3.ret hb4 29 (.v (.bool (decide (FewP L)))) rfl _ (hr3.all.below hb4) (by simp) rfl
  by_cases hf : FewP L
  rotate_left
  · have hfd : decide (FewP L) = false := decide_eq_false hf
    refine seg cfg5_ok mixed PanicFree.body 1000 [true] [] h4 (by first | trivial | exact HpRep.nil | assumption) (by kernel_rfl) fun s_ hs_ => ?_
    simp (maxSteps := 10000000) [SX.vc, SX.stop, SX.contS, SX.contB, SX.contW, SX.contR, SX.contD, SX.sxStep, SX.stepPure, SX.stepNew, SX.stepStore, SX.stepKeep, SX.guardIx, SX.evOp, SX.opd, SX.opds, SX.optOpd, SX.look, SX.putS, SX.gobs, SX.AllP, SX.leave, SX.lookC, SX.lookB, SX.lookT, SX.lookN, SX.findK, SX.evBuiltin, SX.ints, SX.foldI, SX.evBin, SX.evInt, SX.evStr, SX.evEq, SX.arith, SX.evLoad, SX.shapeUp, SX.evFieldAddr, SX.evField, SX.evIndexAddr, SX.evIndex, SX.evFill, SX.evBuild, SX.szs, SX.cellsV, SX.evNew, SX.evStore, SX.spliceL, SX.SV.cells, SX.evConv, SX.evSlice, SX.bnd, SX.evNil, SX.evUn, SX.evPick, SX.pickOpd, SX.popTo, SX.cnd, SX.env0, SX.TD.isAgg, SX.TD.isIface, SX.tails, SX.NotAgg, SX.evLookup, SX.evConvH, SX.evPtrEq, SX.isCells, SX.thaw, SX.frz, SX.fixB, SX.rootIx, SX.Froz, SX.frzStep, SX.fork, Go.Value.cells, Go.undef, cfg5, hfd]
    refine ⟨by (unfold SX.Ob; first | trivial | omega | ((try simp only [SX.inK]); (try simp [SX.den, SX.IsU8, SX.AllP, *]); (try omega))), ?_⟩
    intro a5 w5 hr5 _
    exact post_retn (end1 hr5 rfl rfl ⟨rfl, hr5.keeps.toBelow⟩).1
  have hfd : decide (FewP L) = true := decide_eq_true hf
  obtain ⟨hf1, hf2⟩ := hf
  refine seg cfg5_ok mixed PanicFree.body 1000 [false] [] h4 (by first | trivial | exact HpRep.nil | assumption) (by kernel_rfl) fun s_ hs_ => ?_
  simp (maxSteps := 10000000) [SX.vc, SX.stop, SX.contS, SX.contB, SX.contW, SX.contR, SX.contD, SX.sxStep, SX.stepPure, SX.stepNew, SX.stepStore, SX.stepKeep, SX.guardIx, SX.evOp, SX.opd, SX.opds, SX.optOpd, SX.look, SX.putS, SX.gobs, SX.AllP, SX.leave, SX.lookC, SX.lookB, SX.lookT, SX.lookN, SX.findK, SX.evBuiltin, SX.ints, SX.foldI, SX.evBin, SX.evInt, SX.evStr, SX.evEq, SX.arith, SX.evLoad, SX.shapeUp, SX.evFieldAddr, SX.evField, SX.evIndexAddr, SX.evIndex, SX.evFill, SX.evBuild, SX.szs, SX.cellsV, SX.evNew, SX.evStore, SX.spliceL, SX.SV.cells, SX.evConv, SX.evSlice, SX.bnd, SX.evNil, SX.evUn, SX.evPick, SX.pickOpd, SX.popTo, SX.cnd, SX.env0, SX.TD.isAgg, SX.TD.isIface, SX.tails, SX.NotAgg, SX.evLookup, SX.evConvH, SX.evPtrEq, SX.isCells, SX.thaw, SX.frz, SX.fixB, SX.rootIx, SX.Froz, SX.frzStep, SX.fork, Go.Value.cells, Go.undef, cfg5, hfd]
  refine ⟨by (unfold SX.Ob; first | trivial | omega | ((try simp only [SX.inK]); (try simp [SX.den, SX.IsU8, SX.AllP, *]); (try omega))), ?_⟩
  intro a5 w5 hr5 _
  obtain ⟨g, hg⟩ : ∃ g, (host.tmod 8 + 8).tmod 8 = g := ⟨_, rfl⟩
  rw [hg] at q8
  have h5 := hr5.top 3 (.v (.int .i64 g)) rfl (by simp [den, hg])
  refine post_call 9 [.v (.int .i64 z), .v (.int .i64 t)] h5 (by first | exact wanted_none rfl | exact wanted_zero (h5.env.same rfl rfl rfl rfl) rfl (by simp) | exact wanted_zero (h5.env.same rfl rfl rfl rfl) rfl (by simp [*])) rfl (callable 9 Try.func9) (begin_ok w5 z t) ?_
  rintro e6 w6 ⟨vS, rfl, hS6, hb6⟩
  refine ⟨_, rfl, ?_⟩
  have h6 := h5.ret hb6 39 (.tu [.ag (coC (co0 (bgz z) 60 (bgt t)) (.slice none 0 0) vS (.slice none 0 0)), .v (.bool true)]) rfl _ (h5.all.below hb6) (by simp) rfl
  obtain ⟨aS, cS, rfl⟩ := hS6.slice
  refine seg cfg5_ok mixed PanicFree.body 1000 [false] [] h6.rebase (by first | trivial | exact HpRep.nil | assumption) (by kernel_rfl) fun sA hsA => ?_
  simp (maxSteps := 10000000) [SX.vc, SX.stop, SX.contS, SX.contB, SX.contW, SX.contR, SX.contD, SX.sxStep, SX.stepPure, SX.stepNew, SX.stepStore, SX.stepKeep, SX.guardIx, SX.evOp, SX.opd, SX.opds, SX.optOpd, SX.look, SX.putS, SX.gobs, SX.AllP, SX.leave, SX.lookC, SX.lookB, SX.lookT, SX.lookN, SX.findK, SX.evBuiltin, SX.ints, SX.foldI, SX.evBin, SX.evInt, SX.evStr, SX.evEq, SX.arith, SX.evLoad, SX.shapeUp, SX.evFieldAddr, SX.evField, SX.evIndexAddr, SX.evIndex, SX.evFill, SX.evBuild, SX.szs, SX.cellsV, SX.evNew, SX.evStore, SX.spliceL, SX.SV.cells, SX.evConv, SX.evSlice, SX.bnd, SX.evNil, SX.evUn, SX.evPick, SX.pickOpd, SX.popTo, SX.cnd, SX.env0, SX.TD.isAgg, SX.TD.isIface, SX.tails, SX.NotAgg, SX.evLookup, SX.evConvH, SX.evPtrEq, SX.isCells, SX.thaw, SX.frz, SX.fixB, SX.rootIx, SX.Froz, SX.frzStep, SX.fork, Go.Value.cells, Go.undef, cfg5, coC, co0]
  refine ⟨by (unfold SX.Ob; first | trivial | omega | ((try simp only [SX.inK]); (try simp [SX.den, SX.IsU8, SX.AllP, *]); (try omega))), ?_⟩
  intro a7 w7 hr7' _
  have hr7 := h6.unbase hr7'
  have z5 : w.heap.size ≤ w5.heap.size := hr5.keeps.size
  have z6 : w5.heap.size ≤ w6.heap.size := hb6.size
  have z7 : w6.heap.size ≤ w7.heap.size := hr7'.keeps.size
  have q7 := hpLt hr7.all
  simp at q7
  have hS7 : RdP (fun _ => True) w7 (.slice aS 1 cS) [⟨0, 60, -1, 0⟩] := (hS6.keep hr7'.keeps (by simp [mutB])).mono fun _ _ _ => trivial
  have zz := bgz_pos z
  have tt := bgt_pos t
  have I0 := inv_0 zz.1 zz.2 tt.1 tt.2
  have hL7 : RdE (fun _ => True) w7 (.slice adE L.length cpE) L := (hL.below hr7.keeps.toBelow).mono fun _ _ _ => trivial
  have hpre : ∀ k, k < L.length → Pre (allC (co0 (bgz z) 60 (bgt t)) (L.take k)) (nth evt0 L k) := fun k hk => (inv_all (L.take k) I0 fun x hx => hf1 x (List.mem_of_mem_take hx)).pre (by simp; omega) _
  have hall := all_ok w7 (co0 (bgz z) 60 (bgt t)) L (.slice none 0 0) (.slice aS 1 cS) (.slice none 0 0) _ ⟨OwS.nil.rd, hS7, OwS.nil.rd⟩ hL7 (by omega) (I0.pre (by omega) evt0).sm hpre
  have I := inv_all L I0 hf1
  obtain ⟨c, hc⟩ : ∃ c, allC (co0 (bgz z) 60 (bgt t)) L = c := ⟨_, rfl⟩
  unfold AllR at hall
  rw [hc] at hall I
  refine post_call 10 [.ag (coC (co0 (bgz z) 60 (bgt t)) (.slice none 0 0) (.slice aS 1 cS) (.slice none 0 0)), .v (.slice adE L.length cpE)] hr7 (wanted_none rfl) rfl (callable 10 Try.func10) hall ?_
  rintro e8 w8 ⟨uL, uS, uW, vA, As, Bo, rfl, hC8, hBo, hA8, hAl, hAn, hb8⟩
  refine ⟨_, rfl, ?_⟩
  have n1 := I.nL
  have n2 := I.nS
  have n3 := I.nW
  obtain ⟨aL, cL, rfl⟩ := hC8.1.slice
  obtain ⟨aS, cS, rfl⟩ := hC8.2.1.slice
  obtain ⟨aW, cW, rfl⟩ := hC8.2.2.slice
  obtain ⟨aA, cA, rfl⟩ := hA8.slice
  have z8 : w7.heap.size ≤ w8.heap.size := hb8.size
  have hr8 := hr7.ret hb8 47 (.tu [.ag (coC c (.slice aL c.T.L.length cL) (.slice aS c.S.length cS) (.slice aW c.W.length cW)), .v (.slice aA As.length cA)]) rfl _ (hr7.all.below hb8) (by simp) rfl
  refine seg cfg5_ok mixed PanicFree.body 1000 [] [] hr8.rebase (by first | trivial | exact HpRep.nil | assumption) (by kernel_rfl) fun s_ hs_ => ?_
  simp (maxSteps := 10000000) [SX.vc, SX.stop, SX.contS, SX.contB, SX.contW, SX.contR, SX.contD, SX.sxStep, SX.stepPure, SX.stepNew, SX.stepStore, SX.stepKeep, SX.guardIx, SX.evOp, SX.opd, SX.opds, SX.optOpd, SX.look, SX.putS, SX.gobs, SX.AllP, SX.leave, SX.lookC, SX.lookB, SX.lookT, SX.lookN, SX.findK, SX.evBuiltin, SX.ints, SX.foldI, SX.evBin, SX.evInt, SX.evStr, SX.evEq, SX.arith, SX.evLoad, SX.shapeUp, SX.evFieldAddr, SX.evField, SX.evIndexAddr, SX.evIndex, SX.evFill, SX.evBuild, SX.szs, SX.cellsV, SX.evNew, SX.evStore, SX.spliceL, SX.SV.cells, SX.evConv, SX.evSlice, SX.bnd, SX.evNil, SX.evUn, SX.evPick, SX.pickOpd, SX.popTo, SX.cnd, SX.env0, SX.TD.isAgg, SX.TD.isIface, SX.tails, SX.NotAgg, SX.evLookup, SX.evConvH, SX.evPtrEq, SX.isCells, SX.thaw, SX.frz, SX.fixB, SX.rootIx, SX.Froz, SX.frzStep, SX.fork, Go.Value.cells, Go.undef, cfg5, coC]
  refine ⟨by (unfold SX.Ob; first | trivial | omega | ((try simp only [SX.inK]); (try simp [SX.den, SX.IsU8, SX.AllP, *]); (try omega))), ?_⟩
  intro a9 w9 hr9' _
  have hr9 := hr8.unbase hr9'
  have hsA : sA < w7.heap.size := q7
  have hC9 : RdCo (fun x => w7.heap.size ≤ x ∧ x < w8.heap.size) w9 (.slice aL c.T.L.length cL) (.slice aS c.S.length cS) (.slice aW c.W.length cW) c := (hC8.mono fun x h0 h => ⟨h, h0⟩).keepM hr9'.keeps (by simp [frameAt, mutB]; omega)
  refine post_call 13 [.ag (coC c (.slice aL c.T.L.length cL) (.slice aS c.S.length cS) (.slice aW c.W.length cW)), .v (.int .i64 g)] hr9 (by first | exact wanted_none rfl | exact wanted_zero (hr9.env.same rfl rfl rfl rfl) rfl (by simp) | exact wanted_zero (hr9.env.same rfl rfl rfl rfl) rfl (by simp [*])) rfl (callable 13 Try.func13) (member_ok w9 c _ _ _ g hC9.1 (by omega)) ?_
  rintro e10 w10 ⟨rfl, hb10⟩
  refine ⟨_, rfl, ?_⟩
  have h10 := hr9.ret hb10 52 (.v (.bool (decide (memP c g)))) rfl _ (hr9.all.below hb10) (by simp) rfl
  have hC10 := hC9.below' hb10
  obtain ⟨M, hM⟩ : ∃ M : Bool, decide (memP c g) = M := ⟨_, rfl⟩
  refine seg cfg5_ok mixed PanicFree.body 1000 [] [] h10.rebase (by first | trivial | exact HpRep.nil | assumption) (by kernel_rfl) fun s_ hs_ => ?_
  simp (maxSteps := 10000000) [SX.vc, SX.stop, SX.contS, SX.contB, SX.contW, SX.contR, SX.contD, SX.sxStep, SX.stepPure, SX.stepNew, SX.stepStore, SX.stepKeep, SX.guardIx, SX.evOp, SX.opd, SX.opds, SX.optOpd, SX.look, SX.putS, SX.gobs, SX.AllP, SX.leave, SX.lookC, SX.lookB, SX.lookT, SX.lookN, SX.findK, SX.evBuiltin, SX.ints, SX.foldI, SX.evBin, SX.evInt, SX.evStr, SX.evEq, SX.arith, SX.evLoad, SX.shapeUp, SX.evFieldAddr, SX.evField, SX.evIndexAddr, SX.evIndex, SX.evFill, SX.evBuild, SX.szs, SX.cellsV, SX.evNew, SX.evStore, SX.spliceL, SX.SV.cells, SX.evConv, SX.evSlice, SX.bnd, SX.evNil, SX.evUn, SX.evPick, SX.pickOpd, SX.popTo, SX.cnd, SX.env0, SX.TD.isAgg, SX.TD.isIface, SX.tails, SX.NotAgg, SX.evLookup, SX.evConvH, SX.evPtrEq, SX.isCells, SX.thaw, SX.frz, SX.fixB, SX.rootIx, SX.Froz, SX.frzStep, SX.fork, Go.Value.cells, Go.undef, cfg5]
  refine ⟨by (unfold SX.Ob; first | trivial | omega | ((try simp only [SX.inK]); (try simp [SX.den, SX.IsU8, SX.AllP, *]); (try omega))), ?_⟩
  intro a11 w11 hr11' _
  have hr11 := h10.unbase hr11'
  have kA : ∀ {w1 w2 : World} {M : List Nat}, KeepsTo w1 M w2 → (∀ x ∈ M, x = sA ∨ w8.heap.size ≤ x) → RdCo (fun x => w7.heap.size ≤ x ∧ x < w8.heap.size) w1 (.slice aL c.T.L.length cL) (.slice aS c.S.length cS) (.slice aW c.W.length cW) c → RdCo (fun x => w7.heap.size ≤ x ∧ x < w8.heap.size) w2 (.slice aL c.T.L.length cL) (.slice aS c.S.length cS) (.slice aW c.W.length cW) c := fun hk hM h => h.keepM hk fun x hx hq => by
    have := hM x hx
    omega
  have hC11 := kA hr11'.keeps (by simp [frameAt, mutB]) hC10
  have hB0 : (decide (0 ≤ from_) && decide (from_ < to_) && decide (to_ ≤ 60)) = freeB g from_ to_ c.S 0 := by
    unfold freeB
    simp
  have h12 := (hr11.top 17 (.v (.bool (freeB g from_ to_ c.S 0))) rfl (by rw [hB0])).top 16 (.v (.bool M)) rfl (by rw [hM])
  refine post_loop (fun m a w' => ∃ k : Nat, m = c.S.length - k ∧ k ≤ c.S.length ∧ RdCo (fun x => w7.heap.size ≤ x ∧ x < w8.heap.size) w' (.slice aL c.T.L.length cL) (.slice aS c.S.length cS) (.slice aW c.W.length cW) c ∧ RepX (frame0 w) ⟨[(67, 0, .v (.int .i64 k)), (66, 0, .v (.int .i64 c.S.length)), (65, 0, .v (.slice aS c.S.length cS)), (17, 0, .v (.bool (freeB g from_ to_ c.S k))), (16, 0, .v (.bool M)), (14, 0, .ptr 0 sA 0), (3, 0, .v (.int .i64 g)), (4, 0, .v (.int .i64 from_)), (5, 0, .v (.int .i64 to_)), (13, 0, .v (.bool true)), (12, 0, .v (.bool false))], [(sA, true, .cells (coC c (.slice aL c.T.L.length cL) (.slice aS c.S.length cS) (.slice aW c.W.length cW)) 31)], 0, 0, 164, [], [], []⟩ a w') c.S.length ⟨0, rfl, by omega, hC11, h12.re (by simp [envTo, SX.look]) h12.all rfl rfl⟩ ?_
  rintro m a13 w13 ⟨k, rfl, hk, hC13, hr13⟩
  have z13 : w.heap.size ≤ w13.heap.size := hr13.keeps.size
  by_cases hlt : k < c.S.length
  · obtain ⟨b, o0, cap, u, fz, hP', hv, hrep⟩ := hC13.2.1.opn hlt
    simp only [Value.slice.injEq] at hv
    obtain ⟨hv1, _, hv2⟩ := hv
    obtain ⟨x, hx⟩ : ∃ x, nth S7.spn0 c.S k = x := ⟨_, rfl⟩
    obtain ⟨B, hB⟩ : ∃ B : Bool, freeB g from_ to_ c.S k = B := ⟨_, rfl⟩
    have hr13b := hr13.top 17 (.v (.bool B)) rfl (by rw [hB])
    have h14 := (hr13b.top 65 (.sl 1 b o0 0 c.S.length cS 4) rfl (by simp [den, hv1])).see [(sA, true, .cells (coC c (.slice aL c.T.L.length cL) (.slice aS c.S.length cS) (.slice aW c.W.length cW)) 31), (b, false, .arr o0 c.S.length (fun j => S7.spnC (nth S7.spn0 c.S j)) 4 u fz)] ⟨⟨hr13.all.1.1, hr13.all.1.2.1, by simp; omega⟩, ⟨hrep, by simp, by simp⟩, trivial⟩
    refine seg cfg5_ok mixed PanicFree.body 1000 [true] [] h14.rebase (by first | trivial | exact HpRep.nil | assumption) (by kernel_rfl) fun s_ hs_ => ?_
    simp (maxSteps := 10000000) [SX.vc, SX.stop, SX.contS, SX.contB, SX.contW, SX.contR, SX.contD, SX.sxStep, SX.stepPure, SX.stepNew, SX.stepStore, SX.stepKeep, SX.guardIx, SX.evOp, SX.opd, SX.opds, SX.optOpd, SX.look, SX.putS, SX.gobs, SX.AllP, SX.leave, SX.lookC, SX.lookB, SX.lookT, SX.lookN, SX.findK, SX.evBuiltin, SX.ints, SX.foldI, SX.evBin, SX.evInt, SX.evStr, SX.evEq, SX.arith, SX.evLoad, SX.shapeUp, SX.evFieldAddr, SX.evField, SX.evIndexAddr, SX.evIndex, SX.evFill, SX.evBuild, SX.szs, SX.cellsV, SX.evNew, SX.evStore, SX.spliceL, SX.SV.cells, SX.evConv, SX.evSlice, SX.bnd, SX.evNil, SX.evUn, SX.evPick, SX.pickOpd, SX.popTo, SX.cnd, SX.env0, SX.TD.isAgg, SX.TD.isIface, SX.tails, SX.NotAgg, SX.evLookup, SX.evConvH, SX.evPtrEq, SX.isCells, SX.thaw, SX.frz, SX.fixB, SX.rootIx, SX.Froz, SX.frzStep, SX.fork, Go.Value.cells, Go.undef, cfg5, S7.spnC, hx]
    refine ⟨by (unfold SX.Ob; first | trivial | omega | ((try simp only [SX.inK]); (try simp [SX.den, SX.IsU8, SX.AllP, *]); (try omega))), ?_⟩
    intro a15 w15 hr15' _
    have hr15 := h14.unbase hr15'
    have hfk := freeB_succ (g := g) (f := from_) (t := to_) hlt hx
    rw [hB] at hfk
    exact post_rnd (c.S.length - (k + 1)) (by omega) ⟨k + 1, rfl, hlt, kA hr15'.keeps (by simp [frameAt, mutB]) hC13, by
      rw [hfk]
      exact hr15.re (by simp [envTo, SX.look, den, hv1, okSB]) (hr15.all.take 1) rfl rfl⟩
  obtain rfl : k = c.S.length := by omega
  have hiff := span_iff I (f := from_) (t := to_) q8.1 q8.2
  rw [← freeB_iff (g := g)] at hiff
  obtain ⟨B, hB⟩ : ∃ B : Bool, freeB g from_ to_ c.S c.S.length = B := ⟨_, rfl⟩
  have hr13b := hr13.top 17 (.v (.bool B)) rfl (by rw [hB])
  rw [hB] at hiff
  obtain ⟨A, hA⟩ : ∃ A, doA c (spEv g from_ to_) = A := ⟨_, rfl⟩
  obtain ⟨d, hd⟩ : ∃ d, doC c (spEv g from_ to_) = d := ⟨_, rfl⟩
  refine seg cfg5_ok mixed PanicFree.body 1000 [false] [] hr13b.rebase (by first | trivial | exact HpRep.nil | assumption) (by kernel_rfl) fun s_ hs_ => ?_
  simp (maxSteps := 10000000) [SX.vc, SX.stop, SX.contS, SX.contB, SX.contW, SX.contR, SX.contD, SX.sxStep, SX.stepPure, SX.stepNew, SX.stepStore, SX.stepKeep, SX.guardIx, SX.evOp, SX.opd, SX.opds, SX.optOpd, SX.look, SX.putS, SX.gobs, SX.AllP, SX.leave, SX.lookC, SX.lookB, SX.lookT, SX.lookN, SX.findK, SX.evBuiltin, SX.ints, SX.foldI, SX.evBin, SX.evInt, SX.evStr, SX.evEq, SX.arith, SX.evLoad, SX.shapeUp, SX.evFieldAddr, SX.evField, SX.evIndexAddr, SX.evIndex, SX.evFill, SX.evBuild, SX.szs, SX.cellsV, SX.evNew, SX.evStore, SX.spliceL, SX.SV.cells, SX.evConv, SX.evSlice, SX.bnd, SX.evNil, SX.evUn, SX.evPick, SX.pickOpd, SX.popTo, SX.cnd, SX.env0, SX.TD.isAgg, SX.TD.isIface, SX.tails, SX.NotAgg, SX.evLookup, SX.evConvH, SX.evPtrEq, SX.isCells, SX.thaw, SX.frz, SX.fixB, SX.rootIx, SX.Froz, SX.frzStep, SX.fork, Go.Value.cells, Go.undef, cfg5, coC]
  refine ⟨by (unfold SX.Ob; first | trivial | omega | ((try simp only [SX.inK]); (try simp [SX.den, SX.IsU8, SX.AllP, *]); (try omega))), ?_⟩
  intro a14 w14 hr14' _
  have hr14 := hr13b.unbase hr14'
  have z14 : w.heap.size ≤ w14.heap.size := hr14.keeps.size
  have hC14 := kA hr14'.keeps (by simp [frameAt, mutB]) hC13
  have hdo := do_ok w14 c (spEv g from_ to_) _ _ _ hC14 (I.pre (by omega) _)
  have Id : Inv (0 + L.length + 1) d := hd ▸ inv_do I (show (0 : Int) ≤ 1152921504606846976 by decide)
  have hgiven := span_given I (f := from_) (t := to_) q8.1 q8.2
  rw [hA] at hiff hgiven
  unfold DoR at hdo
  rw [hd, hA] at hdo
  have q14 := hpLt hr14.all
  simp at q14
  have m1 := Id.nL
  have m2 := Id.nS
  have m3 := Id.nW
  refine post_call 12 [.ag (coC c (.slice aL c.T.L.length cL) (.slice aS c.S.length cS) (.slice aW c.W.length cW)), .ag (evC (spEv g from_ to_))] hr14 (wanted_none rfl) rfl (callable 12 Try.func12) hdo ?_
  rintro e15 w15 ⟨vL, vS, vW, va, rfl, hD15, hv15, hb15⟩
  refine ⟨_, rfl, ?_⟩
  obtain ⟨dL, kL, rfl⟩ := hD15.1.slice
  obtain ⟨dS, kS, rfl⟩ := hD15.2.1.slice
  obtain ⟨dW, kW, rfl⟩ := hD15.2.2.slice
  obtain ⟨av, cv, rfl⟩ := hv15.slice
  have z15 : w14.heap.size ≤ w15.heap.size := hb15.size
  have hr15 := hr14.ret hb15 102 (.tu [.ag (coC d (.slice dL d.T.L.length kL) (.slice dS d.S.length kS) (.slice dW d.W.length kW)), .ag (ansC A (.slice av A.L.length cv))]) rfl _ (hr14.all.below hb15) (by simp) rfl
  have hC15 := hC14.below' hb15
  have hD15' : RdCo (fun x => w14.heap.size ≤ x ∧ x < w15.heap.size) w15 (.slice dL d.T.L.length kL) (.slice dS d.S.length kS) (.slice dW d.W.length kW) d := hD15.mono fun x h0 h => ⟨h, h0⟩
  by_cases her : A.er = 0
  rotate_left
  · have hMB : (M && B) = false := by
      rw [Bool.eq_false_iff]
      intro h
      simp only [Bool.and_eq_true] at h
      exact her (hiff.2 ⟨of_decide_eq_true (hM.trans h.1), h.2⟩)
    have hdc : d = c := by
      rw [← hd]
      unfold doC
      rw [hA, if_neg her]
    have hsm := fun w' (h1 : RdCo (fun x => w7.heap.size ≤ x ∧ x < w8.heap.size) w' (.slice aL c.T.L.length cL) (.slice aS c.S.length cS) (.slice aW c.W.length cW) c) (h2 : RdCo (fun x => w14.heap.size ≤ x ∧ x < w15.heap.size) w' (.slice dL d.T.L.length kL) (.slice dS d.S.length kS) (.slice dW d.W.length kW) d) => same_ok w' c d _ _ _ _ _ _ h1 h2 (by omega) (by omega) (by omega)
    rw [decide_eq_true hdc.symm] at hsm
    refine seg cfg5_ok mixed PanicFree.body 1000 [false, true] [(117, true)] hr15.rebase (by first | trivial | exact HpRep.nil | assumption) (by kernel_rfl) fun sD hsD => ?_
    simp (maxSteps := 10000000) [SX.vc, SX.stop, SX.contS, SX.contB, SX.contW, SX.contR, SX.contD, SX.sxStep, SX.stepPure, SX.stepNew, SX.stepStore, SX.stepKeep, SX.guardIx, SX.evOp, SX.opd, SX.opds, SX.optOpd, SX.look, SX.putS, SX.gobs, SX.AllP, SX.leave, SX.lookC, SX.lookB, SX.lookT, SX.lookN, SX.findK, SX.evBuiltin, SX.ints, SX.foldI, SX.evBin, SX.evInt, SX.evStr, SX.evEq, SX.arith, SX.evLoad, SX.shapeUp, SX.evFieldAddr, SX.evField, SX.evIndexAddr, SX.evIndex, SX.evFill, SX.evBuild, SX.szs, SX.cellsV, SX.evNew, SX.evStore, SX.spliceL, SX.SV.cells, SX.evConv, SX.evSlice, SX.bnd, SX.evNil, SX.evUn, SX.evPick, SX.pickOpd, SX.popTo, SX.cnd, SX.env0, SX.TD.isAgg, SX.TD.isIface, SX.tails, SX.NotAgg, SX.evLookup, SX.evConvH, SX.evPtrEq, SX.isCells, SX.thaw, SX.frz, SX.fixB, SX.rootIx, SX.Froz, SX.frzStep, SX.fork, Go.Value.cells, Go.undef, cfg5, coC, ansC, her, hMB]
    refine ⟨by (unfold SX.Ob; first | trivial | omega | ((try simp only [SX.inK]); (try simp [SX.den, SX.IsU8, SX.AllP, *]); (try omega))), ?_⟩
    intro a16 w16 hr16' ht16
    have hr16 := hr15.unbase hr16'
    have hsD : w15.heap.size ≤ sD := by omega
    have hC16 := kA hr16'.keeps (by simp [frameAt, mutB]) hC15
    have hD16 := hD15'.keepM hr16'.keeps (by simp [frameAt, mutB]; omega)
    refine post_call 15 [.ag (coC c (.slice aL c.T.L.length cL) (.slice aS c.S.length cS) (.slice aW c.W.length cW)), .ag (coC d (.slice dL d.T.L.length kL) (.slice dS d.S.length kS) (.slice dW d.W.length kW))] hr16 (by first | exact wanted_none rfl | exact wanted_zero (hr16.env.same rfl rfl rfl rfl) rfl (by simp) | exact wanted_zero (hr16.env.same rfl rfl rfl rfl) rfl (by simp [*])) rfl (callable 15 Try.func15) (hsm w16 hC16 hD16) ?_
    rintro e17 w17 ⟨rfl, hb17⟩
    refine ⟨_, rfl, ?_⟩
    have h17 := hr16.ret hb17 120 (.v (.bool true)) rfl _ (hr16.all.below hb17) (by simp) rfl
    refine seg cfg5_ok mixed PanicFree.body 1000 [] [(117, true)] h17 (by first | trivial | exact HpRep.nil | assumption) (by kernel_rfl) fun s_ hs_ => ?_
    simp (maxSteps := 10000000) [SX.vc, SX.stop, SX.contS, SX.contB, SX.contW, SX.contR, SX.contD, SX.sxStep, SX.stepPure, SX.stepNew, SX.stepStore, SX.stepKeep, SX.guardIx, SX.evOp, SX.opd, SX.opds, SX.optOpd, SX.look, SX.putS, SX.gobs, SX.AllP, SX.leave, SX.lookC, SX.lookB, SX.lookT, SX.lookN, SX.findK, SX.evBuiltin, SX.ints, SX.foldI, SX.evBin, SX.evInt, SX.evStr, SX.evEq, SX.arith, SX.evLoad, SX.shapeUp, SX.evFieldAddr, SX.evField, SX.evIndexAddr, SX.evIndex, SX.evFill, SX.evBuild, SX.szs, SX.cellsV, SX.evNew, SX.evStore, SX.spliceL, SX.SV.cells, SX.evConv, SX.evSlice, SX.bnd, SX.evNil, SX.evUn, SX.evPick, SX.pickOpd, SX.popTo, SX.cnd, SX.env0, SX.TD.isAgg, SX.TD.isIface, SX.tails, SX.NotAgg, SX.evLookup, SX.evConvH, SX.evPtrEq, SX.isCells, SX.thaw, SX.frz, SX.fixB, SX.rootIx, SX.Froz, SX.frzStep, SX.fork, Go.Value.cells, Go.undef, cfg5]
    refine ⟨by (unfold SX.Ob; first | trivial | omega | ((try simp only [SX.inK]); (try simp [SX.den, SX.IsU8, SX.AllP, *]); (try omega))), ?_⟩
    intro a18 w18 hr18 _
    exact post_retn (end1 hr18 rfl rfl ⟨rfl, hr18.keeps.toBelow⟩).1
  obtain ⟨hM1, hB1⟩ := hiff.1 her
  have hMt : M = true := hM.symm.trans (decide_eq_true hM1)
  subst hB1 hMt
  obtain ⟨hAo, hgd⟩ := hgiven her
  obtain ⟨Id', hlast, her2, hnok⟩ := hgd d hd
  subst hAo
  obtain ⟨hA2, hge⟩ := span_given Id' (f := from_) (t := to_) q8.1 q8.2 her2
  obtain ⟨e, he⟩ : ∃ e, doC d (spEv g from_ to_) = e := ⟨_, rfl⟩
  obtain ⟨Ie, hlast2, _, hnok2⟩ := hge e he
  have o1 := Ie.nL
  have o2 := Ie.nS
  have o3 := Ie.nW
  have hla := I.la
  have hl0 := I.T.2.1
  refine seg cfg5_ok mixed PanicFree.body 1000 [false, false] [] hr15.rebase (by first | trivial | exact HpRep.nil | assumption) (by kernel_rfl) fun sD hsD => ?_
  simp (maxSteps := 10000000) [SX.vc, SX.stop, SX.contS, SX.contB, SX.contW, SX.contR, SX.contD, SX.sxStep, SX.stepPure, SX.stepNew, SX.stepStore, SX.stepKeep, SX.guardIx, SX.evOp, SX.opd, SX.opds, SX.optOpd, SX.look, SX.putS, SX.gobs, SX.AllP, SX.leave, SX.lookC, SX.lookB, SX.lookT, SX.lookN, SX.findK, SX.evBuiltin, SX.ints, SX.foldI, SX.evBin, SX.evInt, SX.evStr, SX.evEq, SX.arith, SX.evLoad, SX.shapeUp, SX.evFieldAddr, SX.evField, SX.evIndexAddr, SX.evIndex, SX.evFill, SX.evBuild, SX.szs, SX.cellsV, SX.evNew, SX.evStore, SX.spliceL, SX.SV.cells, SX.evConv, SX.evSlice, SX.bnd, SX.evNil, SX.evUn, SX.evPick, SX.pickOpd, SX.popTo, SX.cnd, SX.env0, SX.TD.isAgg, SX.TD.isIface, SX.tails, SX.NotAgg, SX.evLookup, SX.evConvH, SX.evPtrEq, SX.isCells, SX.thaw, SX.frz, SX.fixB, SX.rootIx, SX.Froz, SX.frzStep, SX.fork, Go.Value.cells, Go.undef, cfg5, coC, ansC, okA]
  refine ⟨by (unfold SX.Ob; first | trivial | omega | ((try simp only [SX.inK]); (try simp [SX.den, SX.IsU8, SX.AllP, *]); (try omega))), ?_⟩
  intro a16 w16 hr16' ht16
  have hr16 := hr15.unbase hr16'
  have hsD : w15.heap.size ≤ sD := by omega
  have z16 : w15.heap.size ≤ w16.heap.size := hr16'.keeps.size
  have hC16 := kA hr16'.keeps (by simp [frameAt, mutB]) hC15
  have hD16 := hD15'.keepM hr16'.keeps (by simp [frameAt, mutB]; omega)
  have q16 := hpLt hr16.all
  simp at q16
  have hdo2 := do_ok w16 d (spEv g from_ to_) _ _ _ hD16 (Id.pre (by omega) _)
  unfold DoR at hdo2
  rw [he, hA2, hlast] at hdo2
  refine post_call 12 [.ag (coC d (.slice dL d.T.L.length kL) (.slice dS d.S.length kS) (.slice dW d.W.length kW)), .ag (evC (spEv g from_ to_))] hr16 (wanted_none rfl) rfl (callable 12 Try.func12) hdo2 ?_
  rintro e17 w17 ⟨vL, vS, vW, va, rfl, hE17, hv17, hb17⟩
  refine ⟨_, rfl, ?_⟩
  obtain ⟨eL, jL, rfl⟩ := hE17.1.slice
  obtain ⟨eS, jS, rfl⟩ := hE17.2.1.slice
  obtain ⟨eW, jW, rfl⟩ := hE17.2.2.slice
  obtain ⟨ae, ce, rfl⟩ := hv17.slice
  have z17 : w16.heap.size ≤ w17.heap.size := hb17.size
  have hr17 := hr16.ret hb17 128 (.tu [.ag (coC e (.slice eL e.T.L.length jL) (.slice eS e.S.length jS) (.slice eW e.W.length jW)), .ag (ansC (okA (c.T.last + 1 + 1)) (.slice ae (okA (c.T.last + 1 + 1)).L.length ce))]) rfl _ (hr16.all.below hb17) (by simp) rfl
  refine seg cfg5_ok mixed PanicFree.body 1000 [] [] hr17.rebase (by first | trivial | exact HpRep.nil | assumption) (by kernel_rfl) fun sE hsE => ?_
  simp (maxSteps := 10000000) [SX.vc, SX.stop, SX.contS, SX.contB, SX.contW, SX.contR, SX.contD, SX.sxStep, SX.stepPure, SX.stepNew, SX.stepStore, SX.stepKeep, SX.guardIx, SX.evOp, SX.opd, SX.opds, SX.optOpd, SX.look, SX.putS, SX.gobs, SX.AllP, SX.leave, SX.lookC, SX.lookB, SX.lookT, SX.lookN, SX.findK, SX.evBuiltin, SX.ints, SX.foldI, SX.evBin, SX.evInt, SX.evStr, SX.evEq, SX.arith, SX.evLoad, SX.shapeUp, SX.evFieldAddr, SX.evField, SX.evIndexAddr, SX.evIndex, SX.evFill, SX.evBuild, SX.szs, SX.cellsV, SX.evNew, SX.evStore, SX.spliceL, SX.SV.cells, SX.evConv, SX.evSlice, SX.bnd, SX.evNil, SX.evUn, SX.evPick, SX.pickOpd, SX.popTo, SX.cnd, SX.env0, SX.TD.isAgg, SX.TD.isIface, SX.tails, SX.NotAgg, SX.evLookup, SX.evConvH, SX.evPtrEq, SX.isCells, SX.thaw, SX.frz, SX.fixB, SX.rootIx, SX.Froz, SX.frzStep, SX.fork, Go.Value.cells, Go.undef, cfg5, coC, ansC, okA]
  refine ⟨by (unfold SX.Ob; first | trivial | omega | ((try simp only [SX.inK]); (try simp [SX.den, SX.IsU8, SX.AllP, *]); (try omega))), ?_⟩
  intro a18 w18 hr18' ht18
  have hr18 := hr17.unbase hr18'
  have hE18 : RdCo (fun x => w16.heap.size ≤ x ∧ x < w17.heap.size) w18 (.slice eL e.T.L.length jL) (.slice eS e.S.length jS) (.slice eW e.W.length jW) e := (hE17.mono fun x h0 h => ⟨h, h0⟩).keepM hr18'.keeps (by simp [frameAt, mutB]; omega)
  have q18 := hpLt hr18.all
  simp at q18
  have hsE : w17.heap.size ≤ sE := by omega
  have hr19 := hr18.see [(sA, true, .any), (sD, true, .any), (sD + 1, true, .cells [.v (.int .i64 0), .v (.int .i64 (c.T.last + 1)), .v (.slice av 0 cv)] 43), (sE, true, .cells (coC e (.slice eL e.T.L.length jL) (.slice eS e.S.length jS) (.slice eW e.W.length jW)) 31), (sE + 1, true, .cells [.v (.int .i64 0), .v (.int .i64 (c.T.last + 1 + 1)), .v (.slice ae 0 ce)] 43)] ⟨⟨SO.rep_lt hr18.all.1.1, hr18.all.1.2.1, by simp; omega⟩, ⟨SO.rep_lt hr18.all.2.1.1, hr18.all.2.1.2.1, by simp; omega⟩, ⟨hr18.all.2.2.1.1, hr18.all.2.2.1.2.1, by simp; omega⟩, ⟨hr18.all.2.2.2.1.1, hr18.all.2.2.2.1.2.1, by simp⟩, ⟨hr18.all.2.2.2.2.1.1, hr18.all.2.2.2.2.1.2.1, by simp⟩, trivial⟩
  refine post_loop (fun m a w' => ∃ k : Nat, m = 8 - k ∧ k ≤ 8 ∧ RdCo (fun x => w16.heap.size ≤ x ∧ x < w17.heap.size) w' (.slice eL e.T.L.length jL) (.slice eS e.S.length jS) (.slice eW e.W.length jW) e ∧ RepX (frame0 w) ⟨[(131, 0, .v (.int .i64 k)), (23, 0, .ptr 4 (sE + 1) 0), (22, 0, .ptr 3 sE 0), (21, 0, .ptr 2 (sD + 1) 0), (3, 0, .v (.int .i64 g)), (4, 0, .v (.int .i64 from_)), (5, 0, .v (.int .i64 to_)), (13, 0, .v (.bool true)), (12, 0, .v (.bool false))], [(sA, true, .any), (sD, true, .any), (sD + 1, true, .cells [.v (.int .i64 0), .v (.int .i64 (c.T.last + 1)), .v (.slice av 0 cv)] 43), (sE, true, .cells (coC e (.slice eL e.T.L.length jL) (.slice eS e.S.length jS) (.slice eW e.W.length jW)) 31), (sE + 1, true, .cells [.v (.int .i64 0), .v (.int .i64 (c.T.last + 1 + 1)), .v (.slice ae 0 ce)] 43)], 0, 0, 164, [], [], []⟩ a w') 8 ⟨0, rfl, by omega, hE18, hr19.re (by simp [envTo, SX.look]) hr19.all rfl rfl⟩ ?_
  rintro m a20 w20 ⟨k, rfl, hk, hE20, hr20⟩
  have q20 := hpLt hr20.all
  simp at q20
  by_cases hlt : k < 8
  rotate_left
  · obtain rfl : k = 8 := by omega
    refine seg cfg5_ok mixed PanicFree.body 1000 [false] [(151, true), (156, true)] hr20 (by first | trivial | exact HpRep.nil | assumption) (by kernel_rfl) fun s_ hs_ => ?_
    simp (maxSteps := 10000000) [SX.vc, SX.stop, SX.contS, SX.contB, SX.contW, SX.contR, SX.contD, SX.sxStep, SX.stepPure, SX.stepNew, SX.stepStore, SX.stepKeep, SX.guardIx, SX.evOp, SX.opd, SX.opds, SX.optOpd, SX.look, SX.putS, SX.gobs, SX.AllP, SX.leave, SX.lookC, SX.lookB, SX.lookT, SX.lookN, SX.findK, SX.evBuiltin, SX.ints, SX.foldI, SX.evBin, SX.evInt, SX.evStr, SX.evEq, SX.arith, SX.evLoad, SX.shapeUp, SX.evFieldAddr, SX.evField, SX.evIndexAddr, SX.evIndex, SX.evFill, SX.evBuild, SX.szs, SX.cellsV, SX.evNew, SX.evStore, SX.spliceL, SX.SV.cells, SX.evConv, SX.evSlice, SX.bnd, SX.evNil, SX.evUn, SX.evPick, SX.pickOpd, SX.popTo, SX.cnd, SX.env0, SX.TD.isAgg, SX.TD.isIface, SX.tails, SX.NotAgg, SX.evLookup, SX.evConvH, SX.evPtrEq, SX.isCells, SX.thaw, SX.frz, SX.fixB, SX.rootIx, SX.Froz, SX.frzStep, SX.fork, Go.Value.cells, Go.undef, cfg5]
    refine ⟨by (unfold SX.Ob; first | trivial | omega | ((try simp only [SX.inK]); (try simp [SX.den, SX.IsU8, SX.AllP, *]); (try omega))), ?_⟩
    intro a21 w21 hr21 _
    exact post_retn (end1 hr21 rfl rfl ⟨rfl, hr21.keeps.toBelow⟩).1
  have hk8 : (k : Int) < 8 := by omega
  by_cases hkg : (k : Int) = g
  · refine seg cfg5_ok mixed PanicFree.body 1000 [true, true] [] hr20.rebase (by first | trivial | exact HpRep.nil | assumption) (by kernel_rfl) fun s_ hs_ => ?_
    simp (maxSteps := 10000000) [SX.vc, SX.stop, SX.contS, SX.contB, SX.contW, SX.contR, SX.contD, SX.sxStep, SX.stepPure, SX.stepNew, SX.stepStore, SX.stepKeep, SX.guardIx, SX.evOp, SX.opd, SX.opds, SX.optOpd, SX.look, SX.putS, SX.gobs, SX.AllP, SX.leave, SX.lookC, SX.lookB, SX.lookT, SX.lookN, SX.findK, SX.evBuiltin, SX.ints, SX.foldI, SX.evBin, SX.evInt, SX.evStr, SX.evEq, SX.arith, SX.evLoad, SX.shapeUp, SX.evFieldAddr, SX.evField, SX.evIndexAddr, SX.evIndex, SX.evFill, SX.evBuild, SX.szs, SX.cellsV, SX.evNew, SX.evStore, SX.spliceL, SX.SV.cells, SX.evConv, SX.evSlice, SX.bnd, SX.evNil, SX.evUn, SX.evPick, SX.pickOpd, SX.popTo, SX.cnd, SX.env0, SX.TD.isAgg, SX.TD.isIface, SX.tails, SX.NotAgg, SX.evLookup, SX.evConvH, SX.evPtrEq, SX.isCells, SX.thaw, SX.frz, SX.fixB, SX.rootIx, SX.Froz, SX.frzStep, SX.fork, Go.Value.cells, Go.undef, cfg5, hkg, hk8]
    refine ⟨by (unfold SX.Ob; first | trivial | omega | ((try simp only [SX.inK]); (try simp [SX.den, SX.IsU8, SX.AllP, *]); (try omega))), ?_⟩
    intro a21 w21 hr21' _
    have hr21 := hr20.unbase hr21'
    exact post_rnd (8 - (k + 1)) (by omega) ⟨k + 1, rfl, hlt, hE20.keepM hr21'.keeps (by simp [frameAt, mutB]; omega), hr21.re (by simp [envTo, SX.look, den, hkg]) (hr21.all.take 5) rfl rfl⟩
  refine seg cfg5_ok mixed PanicFree.body 1000 [true, false] [] hr20.rebase (by first | trivial | exact HpRep.nil | assumption) (by kernel_rfl) fun s_ hs_ => ?_
  simp (maxSteps := 10000000) [SX.vc, SX.stop, SX.contS, SX.contB, SX.contW, SX.contR, SX.contD, SX.sxStep, SX.stepPure, SX.stepNew, SX.stepStore, SX.stepKeep, SX.guardIx, SX.evOp, SX.opd, SX.opds, SX.optOpd, SX.look, SX.putS, SX.gobs, SX.AllP, SX.leave, SX.lookC, SX.lookB, SX.lookT, SX.lookN, SX.findK, SX.evBuiltin, SX.ints, SX.foldI, SX.evBin, SX.evInt, SX.evStr, SX.evEq, SX.arith, SX.evLoad, SX.shapeUp, SX.evFieldAddr, SX.evField, SX.evIndexAddr, SX.evIndex, SX.evFill, SX.evBuild, SX.szs, SX.cellsV, SX.evNew, SX.evStore, SX.spliceL, SX.SV.cells, SX.evConv, SX.evSlice, SX.bnd, SX.evNil, SX.evUn, SX.evPick, SX.pickOpd, SX.popTo, SX.cnd, SX.env0, SX.TD.isAgg, SX.TD.isIface, SX.tails, SX.NotAgg, SX.evLookup, SX.evConvH, SX.evPtrEq, SX.isCells, SX.thaw, SX.frz, SX.fixB, SX.rootIx, SX.Froz, SX.frzStep, SX.fork, Go.Value.cells, Go.undef, cfg5, hkg, hk8, coC]
  refine ⟨by (unfold SX.Ob; first | trivial | omega | ((try simp only [SX.inK]); (try simp [SX.den, SX.IsU8, SX.AllP, *]); (try omega))), ?_⟩
  intro a21 w21 hr21' _
  have hr21 := hr20.unbase hr21'
  have hE21 := hE20.keepM hr21'.keeps (by simp [frameAt, mutB]; omega)
  have hnk := hnok2 k (by omega) hk8 hkg
  obtain ⟨A, hA⟩ : ∃ A, doA e (spEv k from_ to_) = A := ⟨_, rfl⟩
  have hdo3 := do_ok w21 e (spEv k from_ to_) _ _ _ hE21 (Ie.pre (by omega) _)
  unfold DoR at hdo3
  rw [hA] at hdo3 hnk
  obtain ⟨x, hx⟩ : ∃ x, doC e (spEv k from_ to_) = x := ⟨_, rfl⟩
  rw [hx] at hdo3
  refine post_call 12 [.ag (coC e (.slice eL e.T.L.length jL) (.slice eS e.S.length jS) (.slice eW e.W.length jW)), .ag (evC (spEv k from_ to_))] hr21 (wanted_none rfl) rfl (callable 12 Try.func12) hdo3 ?_
  rintro e22 w22 ⟨vL, vS, vW, va, rfl, hX22, hv22, hb22⟩
  refine ⟨_, rfl, ?_⟩
  obtain ⟨xL, iL, rfl⟩ := hX22.1.slice
  obtain ⟨xS, iS, rfl⟩ := hX22.2.1.slice
  obtain ⟨xW, iW, rfl⟩ := hX22.2.2.slice
  obtain ⟨ax, cx, rfl⟩ := hv22.slice
  have hr22 := hr21.ret hb22 143 (.tu [.ag (coC x (.slice xL x.T.L.length iL) (.slice xS x.S.length iS) (.slice xW x.W.length iW)), .ag (ansC A (.slice ax A.L.length cx))]) rfl _ (hr21.all.below hb22) (by simp) rfl
  have hE22 := hE21.below' hb22
  refine seg cfg5_ok mixed PanicFree.body 1000 [false] [] hr22.rebase (by first | trivial | exact HpRep.nil | assumption) (by kernel_rfl) fun s_ hs_ => ?_
  simp (maxSteps := 10000000) [SX.vc, SX.stop, SX.contS, SX.contB, SX.contW, SX.contR, SX.contD, SX.sxStep, SX.stepPure, SX.stepNew, SX.stepStore, SX.stepKeep, SX.guardIx, SX.evOp, SX.opd, SX.opds, SX.optOpd, SX.look, SX.putS, SX.gobs, SX.AllP, SX.leave, SX.lookC, SX.lookB, SX.lookT, SX.lookN, SX.findK, SX.evBuiltin, SX.ints, SX.foldI, SX.evBin, SX.evInt, SX.evStr, SX.evEq, SX.arith, SX.evLoad, SX.shapeUp, SX.evFieldAddr, SX.evField, SX.evIndexAddr, SX.evIndex, SX.evFill, SX.evBuild, SX.szs, SX.cellsV, SX.evNew, SX.evStore, SX.spliceL, SX.SV.cells, SX.evConv, SX.evSlice, SX.bnd, SX.evNil, SX.evUn, SX.evPick, SX.pickOpd, SX.popTo, SX.cnd, SX.env0, SX.TD.isAgg, SX.TD.isIface, SX.tails, SX.NotAgg, SX.evLookup, SX.evConvH, SX.evPtrEq, SX.isCells, SX.thaw, SX.frz, SX.fixB, SX.rootIx, SX.Froz, SX.frzStep, SX.fork, Go.Value.cells, Go.undef, cfg5, coC, ansC, hnk]
  refine ⟨by (unfold SX.Ob; first | trivial | omega | ((try simp only [SX.inK]); (try simp [SX.den, SX.IsU8, SX.AllP, *]); (try omega))), ?_⟩
  intro a23 w23 hr23' _
  have hr23 := hr22.unbase hr23'
  exact post_rnd (8 - (k + 1)) (by omega) ⟨k + 1, rfl, hlt, hE22.keepM hr23'.keeps (by simp [frameAt, mutB]; omega), hr23.re (by simp [envTo, SX.look, den]) (hr23.all.take 5) rfl rfl⟩
end Go.Proofs.C8
