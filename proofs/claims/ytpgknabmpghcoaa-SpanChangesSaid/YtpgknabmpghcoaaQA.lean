/- Spans: the document's Give. -/
import Derived.Test.YtpgknabmpghcoaaPZ
import Derived.Test.YtpgknabmpghcoaaPX
import Derived.Test.YtpgknabmpghcoaaPS
import Derived.Test.YtpgknabmpghcoaaPM
namespace Go.Proofs
set_option linter.unusedVariables false
set_option linter.unusedSimpArgs false
open Go Go.SX Go.RowKit

theorem mem_partS {f t : Int} {x : Spn} : ∀ {L : List Spn}, x ∈ partS f t L ↔ ∃ s ∈ L, x = clipS f t s ∧ x.fr < x.to
  | [] => by simp [partS]
  | s :: r => by
    rw [partS, List.mem_append, mem_partS]
    constructor
    · rintro (h | ⟨y, hy, h⟩)
      · split at h
        · rename_i h'
          simp only [List.mem_singleton] at h
          exact ⟨s, by simp, h, h ▸ h'⟩
        · simp at h
      · exact ⟨y, by simp [hy], h⟩
    · rintro ⟨y, hy, h, h'⟩
      rcases List.mem_cons.1 hy with rfl | hy
      · subst h
        rw [if_pos h']
        exact .inl (by simp)
      · exact .inr ⟨y, hy, h, h'⟩

theorem stale_parts {L : List Spn} {f t o e : Int} (h : Within L f t) (hM : MayO o e) : (∃ s ∈ partS f t L, 0 ≤ o ∧ 0 ≤ s.ow ∧ e ≤ s.ep) ↔ oldS f t o e (cutsS [f, t] L) = true := by
  have ho : 0 ≤ o ↔ o ≠ -1 := by unfold MayO at hM; omega
  rw [old_iff h]
  constructor
  · rintro ⟨x, hx, h0, hw, he⟩
    obtain ⟨s, hs, hc, hlt⟩ := mem_partS.1 hx
    refine ⟨ho.1 h0, x.fr, (s.ow, s.ep), ?_, ?_, ⟨s, hs, ?_, rfl⟩, ?_, ?_⟩
    · rw [hc]; simp only [clipS]; split <;> omega
    · have : x.to ≤ t := by rw [hc]; simp only [clipS]; split <;> omega
      omega
    · refine ⟨?_, ?_⟩
      · rw [hc]; simp only [clipS]; split <;> omega
      · have : x.to ≤ s.to := by rw [hc]; simp only [clipS]; split <;> omega
        omega
    · rw [hc] at hw; have : 0 ≤ s.ow := hw; show s.ow ≠ -1; omega
    · rw [hc] at he; exact he
  · rintro ⟨h0, b, u, b1, b2, hb, hw, he⟩
    have hm := hasS_may h.1.1 hb
    obtain ⟨s, hs, hi, rfl⟩ := hb
    refine ⟨clipS f t s, mem_partS.2 ⟨s, hs, rfl, ?_⟩, ho.2 h0, ?_, he⟩
    · have h1 := hi.1
      have h2 := hi.2
      simp only [clipS]
      split <;> split <;> omega
    · show 0 ≤ s.ow
      unfold MayO at hm
      simp only at hm hw
      omega

def G1Loop (w : World) (v vp : Value) (L X : List Spn) (f t o e : Int) (m : Nat) (a : Act) (w' : World) : Prop :=
  ∃ k : Nat, m = X.length - k ∧ k ≤ X.length ∧ (∀ j, j < k → ¬ (0 ≤ o ∧ 0 ≤ (nth spn0 X j).ow ∧ e ≤ (nth spn0 X j).ep)) ∧ RdP (fun x => w.heap.size ≤ x) w' vp X ∧
    RepX (frame0 w) ⟨[(36, 0, .v (.int .i64 k)), (35, 0, .v (.int .i64 X.length)), (34, 0, .v vp), (0, 0, .v v), (1, 0, .v (.int .i64 f)), (2, 0, .v (.int .i64 t)), (3, 0, .v (.int .i64 o)), (4, 0, .v (.int .i64 e)), (10, 0, .v (.slice none 0 0)), (11, 0, .v (.int .i64 0))], [], 0, 0, 87, [], [], []⟩ a w'

def G2Loop (ws : World) (vc : Value) (C : List Spn) (f t o e : Int) (m : Nat) (a : Act) (w' : World) : Prop :=
  ∃ (k : Nat) (v' : Value), m = C.length - k ∧ k ≤ C.length ∧ OwP (fun x => ws.heap.size ≤ x) w' v' ((C.take k).map (giv f t o e)) ∧
    RepX (frameAt ws []) ⟨[(60, 0, .v (.int .i64 k)), (59, 0, .v (.int .i64 C.length)), (58, 0, .v vc), (16, 0, .v v'), (1, 0, .v (.int .i64 f)), (2, 0, .v (.int .i64 t)), (3, 0, .v (.int .i64 o)), (4, 0, .v (.int .i64 e)), (10, 0, .v (.slice none 0 0)), (11, 0, .v (.int .i64 0))], [], 0, 0, 87, [], [], []⟩ a w'

set_option maxRecDepth 100000 in
set_option maxHeartbeats 16000000 in
/-- The document's Give. -/
theorem rGive_ok {P : Nat → Prop} (w : World) (v : Value) (L : List Spn) (f t o e : Int) (hL : RdP P w v L) (hn : L.length ≤ 100000) : Calls Try.prog 21 (denL [.v v, .v (.int .i64 f), .v (.int .i64 t), .v (.int .i64 o), .v (.int .i64 e)]).toArray w (GiveR w L f t o e) := by
  obtain ⟨ad, cp, rfl⟩ := hL.slice
  refine enter (F := frame0 w) Try.func21 rfl [.v (.slice ad L.length cp), .v (.int .i64 f), .v (.int .i64 t), .v (.int .i64 o), .v (.int .i64 e)] [] (by simp [Try.f21]) trivial (keeps0 w) fun a hr => ?_
  refine seg cfg21_ok mixed PanicFree.body 1000 [] [] hr (by first | trivial | exact HpRep.nil | assumption) (by kernel_rfl) fun s_ hs_ => ?_
  simp (maxSteps := 10000000) [SX.vc, SX.stop, SX.contS, SX.contB, SX.contW, SX.contR, SX.contD, SX.sxStep, SX.stepPure, SX.stepNew, SX.stepStore, SX.stepKeep, SX.guardIx, SX.evOp, SX.opd, SX.opds, SX.optOpd, SX.look, SX.putS, SX.gobs, SX.AllP, SX.leave, SX.lookC, SX.lookB, SX.lookT, SX.lookN, SX.findK, SX.evBuiltin, SX.ints, SX.foldI, SX.evBin, SX.evInt, SX.evStr, SX.evEq, SX.arith, SX.evLoad, SX.shapeUp, SX.evFieldAddr, SX.evField, SX.evIndexAddr, SX.evIndex, SX.evFill, SX.evBuild, SX.szs, SX.cellsV, SX.evNew, SX.evStore, SX.spliceL, SX.SV.cells, SX.evConv, SX.evSlice, SX.bnd, SX.evNil, SX.evUn, SX.evPick, SX.pickOpd, SX.popTo, SX.cnd, SX.env0, SX.TD.isAgg, SX.TD.isIface, SX.tails, SX.NotAgg, SX.evLookup, SX.evConvH, SX.evPtrEq, SX.isCells, SX.thaw, SX.frz, SX.fixB, SX.rootIx, SX.Froz, SX.frzStep, SX.fork, Go.Value.cells, Go.undef, cfg21, Try.f21]
  refine ⟨by (unfold SX.Ob; first | trivial | omega | ((try simp only [SX.inK]); (try simp [SX.den, SX.IsU8, SX.AllP, *]); (try omega))), ?_⟩
  intro a1 w1 hr1 _
  refine post_call 36 [.v (.slice ad L.length cp), .v (.int .i64 f), .v (.int .i64 t)] hr1 (by first | exact wanted_none rfl | exact wanted_zero (hr1.env.same rfl rfl rfl rfl) rfl (by simp)) rfl (callable 36 Try.func36) (rparts_ok w1 _ L f t (hL.below hr1.keeps.toBelow) (by omega)) ?_
  rintro e2 w2 ⟨vp, rfl, hp2, hb2⟩
  refine ⟨_, rfl, ?_⟩
  have h2 := hr1.ret hb2 23 (.tu [.v vp, .v (.int .i64 (partE L f t))]) rfl _ (hr1.all.below hb2) (by simp) rfl
  have bad : ¬ (Within L f t ∧ MayO o e) → giveE L f t o e = 1 ∧ giveL L f t o e = [] := fun h => by
    have h1 : giveE L f t o e = 1 := if_neg h
    exact ⟨h1, by unfold giveL; rw [h1]; rfl⟩
  by_cases hW : Within L f t
  rotate_left
  · have hc : partE L f t = 1 := if_neg hW
    obtain ⟨hE, hG⟩ := bad fun h => hW h.1
    refine seg cfg21_ok mixed PanicFree.body 1000 [true] [(28, true)] h2 (by first | trivial | exact HpRep.nil | assumption) (by kernel_rfl) fun s_ hs_ => ?_
    simp (maxSteps := 10000000) [SX.vc, SX.stop, SX.contS, SX.contB, SX.contW, SX.contR, SX.contD, SX.sxStep, SX.stepPure, SX.stepNew, SX.stepStore, SX.stepKeep, SX.guardIx, SX.evOp, SX.opd, SX.opds, SX.optOpd, SX.look, SX.putS, SX.gobs, SX.AllP, SX.leave, SX.lookC, SX.lookB, SX.lookT, SX.lookN, SX.findK, SX.evBuiltin, SX.ints, SX.foldI, SX.evBin, SX.evInt, SX.evStr, SX.evEq, SX.arith, SX.evLoad, SX.shapeUp, SX.evFieldAddr, SX.evField, SX.evIndexAddr, SX.evIndex, SX.evFill, SX.evBuild, SX.szs, SX.cellsV, SX.evNew, SX.evStore, SX.spliceL, SX.SV.cells, SX.evConv, SX.evSlice, SX.bnd, SX.evNil, SX.evUn, SX.evPick, SX.pickOpd, SX.popTo, SX.cnd, SX.env0, SX.TD.isAgg, SX.TD.isIface, SX.tails, SX.NotAgg, SX.evLookup, SX.evConvH, SX.evPtrEq, SX.isCells, SX.thaw, SX.frz, SX.fixB, SX.rootIx, SX.Froz, SX.frzStep, SX.fork, Go.Value.cells, Go.undef, cfg21, hc]
    refine ⟨by (unfold SX.Ob; first | trivial | omega | ((try simp only [SX.inK]); (try simp [SX.den, SX.IsU8, SX.AllP, *]); (try omega))), ?_⟩
    intro a3 w3 hr3 _
    exact post_retn (end2 hr3 rfl rfl rfl ⟨.slice none 0 0, by rw [hE]; simp [den, denL], by rw [hG]; exact OwS.nil, hr3.keeps.toBelow⟩).1
  have hc : partE L f t = 0 := if_pos hW
  rw [show partL L f t = partS f t L from if_pos hW] at hp2
  obtain ⟨X, hX⟩ : ∃ X, partS f t L = X := ⟨_, rfl⟩
  have hXl := partS_len f t L
  rw [hX] at hp2 hXl
  refine seg cfg21_ok mixed PanicFree.body 1000 [] [(28, false)] h2.rebase (by first | trivial | exact HpRep.nil | assumption) (by kernel_rfl) fun s_ hs_ => ?_
  simp (maxSteps := 10000000) [SX.vc, SX.stop, SX.contS, SX.contB, SX.contW, SX.contR, SX.contD, SX.sxStep, SX.stepPure, SX.stepNew, SX.stepStore, SX.stepKeep, SX.guardIx, SX.evOp, SX.opd, SX.opds, SX.optOpd, SX.look, SX.putS, SX.gobs, SX.AllP, SX.leave, SX.lookC, SX.lookB, SX.lookT, SX.lookN, SX.findK, SX.evBuiltin, SX.ints, SX.foldI, SX.evBin, SX.evInt, SX.evStr, SX.evEq, SX.arith, SX.evLoad, SX.shapeUp, SX.evFieldAddr, SX.evField, SX.evIndexAddr, SX.evIndex, SX.evFill, SX.evBuild, SX.szs, SX.cellsV, SX.evNew, SX.evStore, SX.spliceL, SX.SV.cells, SX.evConv, SX.evSlice, SX.bnd, SX.evNil, SX.evUn, SX.evPick, SX.pickOpd, SX.popTo, SX.cnd, SX.env0, SX.TD.isAgg, SX.TD.isIface, SX.tails, SX.NotAgg, SX.evLookup, SX.evConvH, SX.evPtrEq, SX.isCells, SX.thaw, SX.frz, SX.fixB, SX.rootIx, SX.Froz, SX.frzStep, SX.fork, Go.Value.cells, Go.undef, cfg21, hc]
  refine ⟨by (unfold SX.Ob; first | trivial | omega | ((try simp only [SX.inK]); (try simp [SX.den, SX.IsU8, SX.AllP, *]); (try omega))), ?_⟩
  intro a3 w3 hr3' _
  have hr3 := h2.unbase hr3'
  have hp3 := hp2.rd.keep hr3'.keeps (by simp [frameAt, mutB])
  refine post_call 29 [.v (.int .i64 o), .v (.int .i64 e)] hr3 (by first | exact wanted_none rfl | exact wanted_zero (hr3.env.same rfl rfl rfl rfl) rfl (by simp)) rfl (callable 29 Try.func29) (owner_ok w3 o e) ?_
  rintro e4 w4 ⟨rfl, hb4⟩
  refine ⟨_, rfl, ?_⟩
  have h4 := hr3.ret hb4 31 (.v (.bool (decide (MayO o e)))) rfl _ (hr3.all.below hb4) (by simp) rfl
  by_cases hM : MayO o e
  rotate_left
  · obtain ⟨hE, hG⟩ := bad fun h => hM h.2
    refine seg cfg21_ok mixed PanicFree.body 1000 [true] [(28, false)] h4 (by first | trivial | exact HpRep.nil | assumption) (by kernel_rfl) fun s_ hs_ => ?_
    simp (maxSteps := 10000000) [SX.vc, SX.stop, SX.contS, SX.contB, SX.contW, SX.contR, SX.contD, SX.sxStep, SX.stepPure, SX.stepNew, SX.stepStore, SX.stepKeep, SX.guardIx, SX.evOp, SX.opd, SX.opds, SX.optOpd, SX.look, SX.putS, SX.gobs, SX.AllP, SX.leave, SX.lookC, SX.lookB, SX.lookT, SX.lookN, SX.findK, SX.evBuiltin, SX.ints, SX.foldI, SX.evBin, SX.evInt, SX.evStr, SX.evEq, SX.arith, SX.evLoad, SX.shapeUp, SX.evFieldAddr, SX.evField, SX.evIndexAddr, SX.evIndex, SX.evFill, SX.evBuild, SX.szs, SX.cellsV, SX.evNew, SX.evStore, SX.spliceL, SX.SV.cells, SX.evConv, SX.evSlice, SX.bnd, SX.evNil, SX.evUn, SX.evPick, SX.pickOpd, SX.popTo, SX.cnd, SX.env0, SX.TD.isAgg, SX.TD.isIface, SX.tails, SX.NotAgg, SX.evLookup, SX.evConvH, SX.evPtrEq, SX.isCells, SX.thaw, SX.frz, SX.fixB, SX.rootIx, SX.Froz, SX.frzStep, SX.fork, Go.Value.cells, Go.undef, cfg21, hM]
    refine ⟨by (unfold SX.Ob; first | trivial | omega | ((try simp only [SX.inK]); (try simp [SX.den, SX.IsU8, SX.AllP, *]); (try omega))), ?_⟩
    intro a5 w5 hr5 _
    exact post_retn (end2 hr5 rfl rfl rfl ⟨.slice none 0 0, by rw [hE]; simp [den, denL], by rw [hG]; exact OwS.nil, hr5.keeps.toBelow⟩).1
  have hst := stale_parts hW hM
  rw [hX] at hst
  have hp4 := hp3.below hb4
  obtain ⟨adp, cpp, rfl⟩ := hp4.slice
  refine seg cfg21_ok mixed PanicFree.body 1000 [false] [(28, false)] h4.rebase (by first | trivial | exact HpRep.nil | assumption) (by kernel_rfl) fun s_ hs_ => ?_
  simp (maxSteps := 10000000) [SX.vc, SX.stop, SX.contS, SX.contB, SX.contW, SX.contR, SX.contD, SX.sxStep, SX.stepPure, SX.stepNew, SX.stepStore, SX.stepKeep, SX.guardIx, SX.evOp, SX.opd, SX.opds, SX.optOpd, SX.look, SX.putS, SX.gobs, SX.AllP, SX.leave, SX.lookC, SX.lookB, SX.lookT, SX.lookN, SX.findK, SX.evBuiltin, SX.ints, SX.foldI, SX.evBin, SX.evInt, SX.evStr, SX.evEq, SX.arith, SX.evLoad, SX.shapeUp, SX.evFieldAddr, SX.evField, SX.evIndexAddr, SX.evIndex, SX.evFill, SX.evBuild, SX.szs, SX.cellsV, SX.evNew, SX.evStore, SX.spliceL, SX.SV.cells, SX.evConv, SX.evSlice, SX.bnd, SX.evNil, SX.evUn, SX.evPick, SX.pickOpd, SX.popTo, SX.cnd, SX.env0, SX.TD.isAgg, SX.TD.isIface, SX.tails, SX.NotAgg, SX.evLookup, SX.evConvH, SX.evPtrEq, SX.isCells, SX.thaw, SX.frz, SX.fixB, SX.rootIx, SX.Froz, SX.frzStep, SX.fork, Go.Value.cells, Go.undef, cfg21, hM]
  refine ⟨by (unfold SX.Ob; first | trivial | omega | ((try simp only [SX.inK]); (try simp [SX.den, SX.IsU8, SX.AllP, *]); (try omega))), ?_⟩
  intro a5 w5 hr5' _
  have hr5 := h4.unbase hr5'
  have z1 : w.heap.size ≤ w1.heap.size := hr1.keeps.size
  have hp5 := (hp4.mono (P' := fun x => w.heap.size ≤ x) fun x _ h => by omega).keep hr5'.keeps (by simp [frameAt, mutB])
  refine post_loop (G1Loop w (.slice ad L.length cp) (.slice adp X.length cpp) L X f t o e) X.length ⟨0, rfl, by omega, by omega, hp5, hr5.re (by simp [envTo, SX.look, den]) trivial rfl rfl⟩ ?_
  rintro m a6 w6 ⟨k, rfl, hk, hs, hp6, hr6⟩
  by_cases hlt : k < X.length
  · obtain ⟨b, o0, cap, u, fz, hP, hv, hrep⟩ := hp6.opn hlt
    cases hv
    obtain ⟨x, hx⟩ : ∃ x, nth spn0 X k = x := ⟨_, rfl⟩
    have hbw := SO.rep_lt hrep
    have h7 := (hr6.top 34 (.sl 0 b o0 0 X.length cpp 4) rfl (by simp [den])).see _ (HpAll.one hrep)
    have nxt : ¬ (0 ≤ o ∧ 0 ≤ x.ow ∧ e ≤ x.ep) → ∀ j, j < k + 1 → ¬ (0 ≤ o ∧ 0 ≤ (nth spn0 X j).ow ∧ e ≤ (nth spn0 X j).ep) := fun h j hj => by
      rcases Nat.lt_or_ge j k with h' | h'
      · exact hs j h'
      · obtain rfl : j = k := by omega
        rw [hx]; exact h
    by_cases ho : 0 ≤ o
    rotate_left
    · refine seg cfg21_ok mixed PanicFree.body 1000 [true, false] [(42, false), (47, false)] h7.rebase (by first | trivial | exact HpRep.nil | assumption) (by kernel_rfl) fun s_ hs_ => ?_
      simp (maxSteps := 10000000) [SX.vc, SX.stop, SX.contS, SX.contB, SX.contW, SX.contR, SX.contD, SX.sxStep, SX.stepPure, SX.stepNew, SX.stepStore, SX.stepKeep, SX.guardIx, SX.evOp, SX.opd, SX.opds, SX.optOpd, SX.look, SX.putS, SX.gobs, SX.AllP, SX.leave, SX.lookC, SX.lookB, SX.lookT, SX.lookN, SX.findK, SX.evBuiltin, SX.ints, SX.foldI, SX.evBin, SX.evInt, SX.evStr, SX.evEq, SX.arith, SX.evLoad, SX.shapeUp, SX.evFieldAddr, SX.evField, SX.evIndexAddr, SX.evIndex, SX.evFill, SX.evBuild, SX.szs, SX.cellsV, SX.evNew, SX.evStore, SX.spliceL, SX.SV.cells, SX.evConv, SX.evSlice, SX.bnd, SX.evNil, SX.evUn, SX.evPick, SX.pickOpd, SX.popTo, SX.cnd, SX.env0, SX.TD.isAgg, SX.TD.isIface, SX.tails, SX.NotAgg, SX.evLookup, SX.evConvH, SX.evPtrEq, SX.isCells, SX.thaw, SX.frz, SX.fixB, SX.rootIx, SX.Froz, SX.frzStep, SX.fork, Go.Value.cells, Go.undef, cfg21, spnC, hx, ho]
      refine ⟨by (unfold SX.Ob; first | trivial | omega | ((try simp only [SX.inK]); (try simp [SX.den, SX.IsU8, SX.AllP, *]); (try omega))), ?_⟩
      intro a8 w8 hr8' _
      have hr8 := h7.unbase hr8'
      exact post_rnd (X.length - (k + 1)) (by omega) ⟨k + 1, rfl, hlt, nxt fun h => ho h.1, hp6.keep hr8'.keeps (by simp [frameAt, mutB]), hr8.re (by simp [envTo, SX.look, den]) trivial rfl rfl⟩
    by_cases hw : 0 ≤ x.ow
    rotate_left
    · refine seg cfg21_ok mixed PanicFree.body 1000 [true, false] [(42, true), (47, false)] h7.rebase (by first | trivial | exact HpRep.nil | assumption) (by kernel_rfl) fun s_ hs_ => ?_
      simp (maxSteps := 10000000) [SX.vc, SX.stop, SX.contS, SX.contB, SX.contW, SX.contR, SX.contD, SX.sxStep, SX.stepPure, SX.stepNew, SX.stepStore, SX.stepKeep, SX.guardIx, SX.evOp, SX.opd, SX.opds, SX.optOpd, SX.look, SX.putS, SX.gobs, SX.AllP, SX.leave, SX.lookC, SX.lookB, SX.lookT, SX.lookN, SX.findK, SX.evBuiltin, SX.ints, SX.foldI, SX.evBin, SX.evInt, SX.evStr, SX.evEq, SX.arith, SX.evLoad, SX.shapeUp, SX.evFieldAddr, SX.evField, SX.evIndexAddr, SX.evIndex, SX.evFill, SX.evBuild, SX.szs, SX.cellsV, SX.evNew, SX.evStore, SX.spliceL, SX.SV.cells, SX.evConv, SX.evSlice, SX.bnd, SX.evNil, SX.evUn, SX.evPick, SX.pickOpd, SX.popTo, SX.cnd, SX.env0, SX.TD.isAgg, SX.TD.isIface, SX.tails, SX.NotAgg, SX.evLookup, SX.evConvH, SX.evPtrEq, SX.isCells, SX.thaw, SX.frz, SX.fixB, SX.rootIx, SX.Froz, SX.frzStep, SX.fork, Go.Value.cells, Go.undef, cfg21, spnC, hx, ho, hw]
      refine ⟨by (unfold SX.Ob; first | trivial | omega | ((try simp only [SX.inK]); (try simp [SX.den, SX.IsU8, SX.AllP, *]); (try omega))), ?_⟩
      intro a8 w8 hr8' _
      have hr8 := h7.unbase hr8'
      exact post_rnd (X.length - (k + 1)) (by omega) ⟨k + 1, rfl, hlt, nxt fun h => hw h.2.1, hp6.keep hr8'.keeps (by simp [frameAt, mutB]), hr8.re (by simp [envTo, SX.look, den]) trivial rfl rfl⟩
    by_cases he : e ≤ x.ep
    rotate_left
    · refine seg cfg21_ok mixed PanicFree.body 1000 [true, false] [(42, true), (47, true)] h7.rebase (by first | trivial | exact HpRep.nil | assumption) (by kernel_rfl) fun s_ hs_ => ?_
      simp (maxSteps := 10000000) [SX.vc, SX.stop, SX.contS, SX.contB, SX.contW, SX.contR, SX.contD, SX.sxStep, SX.stepPure, SX.stepNew, SX.stepStore, SX.stepKeep, SX.guardIx, SX.evOp, SX.opd, SX.opds, SX.optOpd, SX.look, SX.putS, SX.gobs, SX.AllP, SX.leave, SX.lookC, SX.lookB, SX.lookT, SX.lookN, SX.findK, SX.evBuiltin, SX.ints, SX.foldI, SX.evBin, SX.evInt, SX.evStr, SX.evEq, SX.arith, SX.evLoad, SX.shapeUp, SX.evFieldAddr, SX.evField, SX.evIndexAddr, SX.evIndex, SX.evFill, SX.evBuild, SX.szs, SX.cellsV, SX.evNew, SX.evStore, SX.spliceL, SX.SV.cells, SX.evConv, SX.evSlice, SX.bnd, SX.evNil, SX.evUn, SX.evPick, SX.pickOpd, SX.popTo, SX.cnd, SX.env0, SX.TD.isAgg, SX.TD.isIface, SX.tails, SX.NotAgg, SX.evLookup, SX.evConvH, SX.evPtrEq, SX.isCells, SX.thaw, SX.frz, SX.fixB, SX.rootIx, SX.Froz, SX.frzStep, SX.fork, Go.Value.cells, Go.undef, cfg21, spnC, hx, ho, hw, he]
      refine ⟨by (unfold SX.Ob; first | trivial | omega | ((try simp only [SX.inK]); (try simp [SX.den, SX.IsU8, SX.AllP, *]); (try omega))), ?_⟩
      intro a8 w8 hr8' _
      have hr8 := h7.unbase hr8'
      exact post_rnd (X.length - (k + 1)) (by omega) ⟨k + 1, rfl, hlt, nxt fun h => he h.2.2, hp6.keep hr8'.keeps (by simp [frameAt, mutB]), hr8.re (by simp [envTo, SX.look, den]) trivial rfl rfl⟩
    have hE : giveE L f t o e = 61 := by
      unfold giveE
      rw [if_pos ⟨hW, hM⟩, if_pos (hst.1 ⟨x, hx ▸ nth_mem hlt, ho, hw, he⟩)]
    have hG : giveL L f t o e = [] := by unfold giveL; rw [hE]; rfl
    refine seg cfg21_ok mixed PanicFree.body 1000 [true, true] [(42, true), (47, true)] h7 (by first | trivial | exact HpRep.nil | assumption) (by kernel_rfl) fun s_ hs_ => ?_
    simp (maxSteps := 10000000) [SX.vc, SX.stop, SX.contS, SX.contB, SX.contW, SX.contR, SX.contD, SX.sxStep, SX.stepPure, SX.stepNew, SX.stepStore, SX.stepKeep, SX.guardIx, SX.evOp, SX.opd, SX.opds, SX.optOpd, SX.look, SX.putS, SX.gobs, SX.AllP, SX.leave, SX.lookC, SX.lookB, SX.lookT, SX.lookN, SX.findK, SX.evBuiltin, SX.ints, SX.foldI, SX.evBin, SX.evInt, SX.evStr, SX.evEq, SX.arith, SX.evLoad, SX.shapeUp, SX.evFieldAddr, SX.evField, SX.evIndexAddr, SX.evIndex, SX.evFill, SX.evBuild, SX.szs, SX.cellsV, SX.evNew, SX.evStore, SX.spliceL, SX.SV.cells, SX.evConv, SX.evSlice, SX.bnd, SX.evNil, SX.evUn, SX.evPick, SX.pickOpd, SX.popTo, SX.cnd, SX.env0, SX.TD.isAgg, SX.TD.isIface, SX.tails, SX.NotAgg, SX.evLookup, SX.evConvH, SX.evPtrEq, SX.isCells, SX.thaw, SX.frz, SX.fixB, SX.rootIx, SX.Froz, SX.frzStep, SX.fork, Go.Value.cells, Go.undef, cfg21, spnC, hx, ho, hw, he]
    refine ⟨by (unfold SX.Ob; first | trivial | omega | ((try simp only [SX.inK]); (try simp [SX.den, SX.IsU8, SX.AllP, *]); (try omega))), ?_⟩
    intro a8 w8 hr8 _
    exact post_retn (end2 hr8 rfl rfl rfl ⟨.slice none 0 0, by rw [hE]; simp [den, denL], by rw [hG]; exact OwS.nil, hr8.keeps.toBelow⟩).1
  obtain rfl : k = X.length := by omega
  have hno : oldS f t o e (cutsS [f, t] L) = false := by
    rw [Bool.eq_false_iff]
    intro h
    obtain ⟨s, hs', h'⟩ := hst.2 h
    obtain ⟨j, hj, rfl⟩ := List.mem_iff_getElem.1 hs'
    have := hs j hj
    rw [nth_lt hj] at this
    exact this h'
  have hE : giveE L f t o e = 0 := by
    unfold giveE
    rw [if_pos ⟨hW, hM⟩, hno]
    rfl
  have hG : giveL L f t o e = joinS ((cutsS [f, t] L).map (giv f t o e)) := by unfold giveL; rw [if_pos hE]
  have f1 := cutS_facts f hW.1.1
  have hcut : rcutS t (rcutS f L) = cutsS [f, t] L := by rw [rcutS_eq hW.1.1, rcutS_eq f1.1]; rfl
  have hlenC := cutsS_len [f, t] L
  obtain ⟨C, hC⟩ : ∃ C, cutsS [f, t] L = C := ⟨_, rfl⟩
  have hXC : ChkP (C.map (giv f t o e)) := by
    obtain ⟨c1, c2, _⟩ := cutsS_facts [f, t] hW.1.1
    rw [hC] at c1 c2
    obtain ⟨g1, g2⟩ := chkS_giv (f := f) (t := t) hM c1
    exact ⟨g1, by rw [g2, c2]; exact hW.1.2.1, by rw [g2, c2]; exact hW.1.2.2⟩
  rw [hC] at hcut hG hlenC
  simp only [List.length_cons, List.length_nil] at hlenC
  refine seg cfg21_ok mixed PanicFree.body 1000 [false] [] hr6 (by first | trivial | exact HpRep.nil | assumption) (by kernel_rfl) fun s_ hs_ => ?_
  simp (maxSteps := 10000000) [SX.vc, SX.stop, SX.contS, SX.contB, SX.contW, SX.contR, SX.contD, SX.sxStep, SX.stepPure, SX.stepNew, SX.stepStore, SX.stepKeep, SX.guardIx, SX.evOp, SX.opd, SX.opds, SX.optOpd, SX.look, SX.putS, SX.gobs, SX.AllP, SX.leave, SX.lookC, SX.lookB, SX.lookT, SX.lookN, SX.findK, SX.evBuiltin, SX.ints, SX.foldI, SX.evBin, SX.evInt, SX.evStr, SX.evEq, SX.arith, SX.evLoad, SX.shapeUp, SX.evFieldAddr, SX.evField, SX.evIndexAddr, SX.evIndex, SX.evFill, SX.evBuild, SX.szs, SX.cellsV, SX.evNew, SX.evStore, SX.spliceL, SX.SV.cells, SX.evConv, SX.evSlice, SX.bnd, SX.evNil, SX.evUn, SX.evPick, SX.pickOpd, SX.popTo, SX.cnd, SX.env0, SX.TD.isAgg, SX.TD.isIface, SX.tails, SX.NotAgg, SX.evLookup, SX.evConvH, SX.evPtrEq, SX.isCells, SX.thaw, SX.frz, SX.fixB, SX.rootIx, SX.Froz, SX.frzStep, SX.fork, Go.Value.cells, Go.undef, cfg21]
  refine ⟨by (unfold SX.Ob; first | trivial | omega | ((try simp only [SX.inK]); (try simp [SX.den, SX.IsU8, SX.AllP, *]); (try omega))), ?_⟩
  intro a8 w8 hr8 _
  refine post_call 35 [.v (.slice ad L.length cp), .v (.int .i64 f)] hr8 (by first | exact wanted_none rfl | exact wanted_zero (hr8.env.same rfl rfl rfl rfl) rfl (by simp)) rfl (callable 35 Try.func35) (rcut_ok w8 _ L f (hL.below hr8.keeps.toBelow) (by omega)) ?_
  rintro e9 w9 ⟨v9, rfl, hO9, hb9⟩
  refine ⟨_, rfl, ?_⟩
  have h9 := hr8.ret hb9 56 (.v v9) rfl _ (hr8.all.below hb9) (by simp) rfl
  refine seg cfg21_ok mixed PanicFree.body 1000 [] [] h9.rebase (by first | trivial | exact HpRep.nil | assumption) (by kernel_rfl) fun s_ hs_ => ?_
  simp (maxSteps := 10000000) [SX.vc, SX.stop, SX.contS, SX.contB, SX.contW, SX.contR, SX.contD, SX.sxStep, SX.stepPure, SX.stepNew, SX.stepStore, SX.stepKeep, SX.guardIx, SX.evOp, SX.opd, SX.opds, SX.optOpd, SX.look, SX.putS, SX.gobs, SX.AllP, SX.leave, SX.lookC, SX.lookB, SX.lookT, SX.lookN, SX.findK, SX.evBuiltin, SX.ints, SX.foldI, SX.evBin, SX.evInt, SX.evStr, SX.evEq, SX.arith, SX.evLoad, SX.shapeUp, SX.evFieldAddr, SX.evField, SX.evIndexAddr, SX.evIndex, SX.evFill, SX.evBuild, SX.szs, SX.cellsV, SX.evNew, SX.evStore, SX.spliceL, SX.SV.cells, SX.evConv, SX.evSlice, SX.bnd, SX.evNil, SX.evUn, SX.evPick, SX.pickOpd, SX.popTo, SX.cnd, SX.env0, SX.TD.isAgg, SX.TD.isIface, SX.tails, SX.NotAgg, SX.evLookup, SX.evConvH, SX.evPtrEq, SX.isCells, SX.thaw, SX.frz, SX.fixB, SX.rootIx, SX.Froz, SX.frzStep, SX.fork, Go.Value.cells, Go.undef, cfg21]
  refine ⟨by (unfold SX.Ob; first | trivial | omega | ((try simp only [SX.inK]); (try simp [SX.den, SX.IsU8, SX.AllP, *]); (try omega))), ?_⟩
  intro a10 w10 hr10' _
  have hr10 := h9.unbase hr10'
  have hO10 := hO9.keep hr10'.keeps (by simp [frameAt, mutB])
  have hl1 : (rcutS f L).length ≤ 100001 := by rw [rcutS_eq hW.1.1]; have := cutS_len f L; omega
  refine post_call 35 [.v v9, .v (.int .i64 t)] hr10 (by first | exact wanted_none rfl | exact wanted_zero (hr10.env.same rfl rfl rfl rfl) rfl (by simp)) rfl (callable 35 Try.func35) (rcut_ok w10 v9 _ t hO10.rd (by omega)) ?_
  rintro e11 w11 ⟨v11, rfl, hO11, hb11⟩
  refine ⟨_, rfl, ?_⟩
  have h11 := hr10.ret hb11 58 (.v v11) rfl _ (hr10.all.below hb11) (by simp) rfl
  rw [hcut] at hO11
  obtain ⟨ad11, cp11, rfl⟩ := hO11.slice
  refine seg cfg21_ok mixed PanicFree.body 1000 [] [] h11.rebase (by first | trivial | exact HpRep.nil | assumption) (by kernel_rfl) fun s_ hs_ => ?_
  simp (maxSteps := 10000000) [SX.vc, SX.stop, SX.contS, SX.contB, SX.contW, SX.contR, SX.contD, SX.sxStep, SX.stepPure, SX.stepNew, SX.stepStore, SX.stepKeep, SX.guardIx, SX.evOp, SX.opd, SX.opds, SX.optOpd, SX.look, SX.putS, SX.gobs, SX.AllP, SX.leave, SX.lookC, SX.lookB, SX.lookT, SX.lookN, SX.findK, SX.evBuiltin, SX.ints, SX.foldI, SX.evBin, SX.evInt, SX.evStr, SX.evEq, SX.arith, SX.evLoad, SX.shapeUp, SX.evFieldAddr, SX.evField, SX.evIndexAddr, SX.evIndex, SX.evFill, SX.evBuild, SX.szs, SX.cellsV, SX.evNew, SX.evStore, SX.spliceL, SX.SV.cells, SX.evConv, SX.evSlice, SX.bnd, SX.evNil, SX.evUn, SX.evPick, SX.pickOpd, SX.popTo, SX.cnd, SX.env0, SX.TD.isAgg, SX.TD.isIface, SX.tails, SX.NotAgg, SX.evLookup, SX.evConvH, SX.evPtrEq, SX.isCells, SX.thaw, SX.frz, SX.fixB, SX.rootIx, SX.Froz, SX.frzStep, SX.fork, Go.Value.cells, Go.undef, cfg21]
  refine ⟨by (unfold SX.Ob; first | trivial | omega | ((try simp only [SX.inK]); (try simp [SX.den, SX.IsU8, SX.AllP, *]); (try omega))), ?_⟩
  intro a12 w12 hr12' _
  have hr12 := h11.unbase hr12'
  have hO12 := (hO11.rd.mono (P' := fun _ => True) fun _ _ _ => trivial).keep hr12'.keeps (by simp [frameAt, mutB])
  have z12 : w.heap.size ≤ w12.heap.size := hr12.keeps.size
  have hC12 := hO12.mono (P' := fun x => x < w12.heap.size) fun x h _ => h
  refine post_loop (G2Loop w12 (.slice ad11 C.length cp11) C f t o e) C.length ⟨0, .slice none 0 0, rfl, by omega, OwS.nil, hr12.rebase.re (by simp [envTo, SX.look]) trivial rfl rfl⟩ ?_
  rintro m a13 w13 ⟨k, v', rfl, hk, hO13, hr13⟩
  have z13 : w12.heap.size ≤ w13.heap.size := hr13.keeps.size
  by_cases hlt : k < C.length
  · obtain ⟨b, o0, cap, u, fz, hP, hv, hrep⟩ := hC12.opn hlt
    cases hv
    have hrep2 := KeepsTo.same (M := []) hr13.keeps hrep (by simp)
    obtain ⟨x, hx⟩ : ∃ x, nth spn0 C k = x := ⟨_, rfl⟩
    have hstep : (C.take (k + 1)).map (giv f t o e) = (C.take k).map (giv f t o e) ++ [giv f t o e x] := by rw [take_nth (d := spn0) hlt, hx, List.map_append]; rfl
    have hlk : ((C.take k).map (giv f t o e)).length = k := by simp; omega
    have h14 := (hr13.top 58 (.sl 0 b o0 0 C.length cp11 4) rfl (by simp [den])).see _ (HpAll.one hrep2)
    by_cases g1 : f ≤ x.fr
    · by_cases g2 : x.to ≤ t
      · have hgx : giv f t o e x = { x with ow := o, ep := e } := if_pos ⟨g1, g2⟩
        refine seg cfg21_ok mixed PanicFree.body 1000 [true, true] [(68, true)] h14.rebase (by first | trivial | exact HpRep.nil | assumption) (by kernel_rfl) fun s_ hs_ => ?_
        simp (maxSteps := 10000000) [SX.vc, SX.stop, SX.contS, SX.contB, SX.contW, SX.contR, SX.contD, SX.sxStep, SX.stepPure, SX.stepNew, SX.stepStore, SX.stepKeep, SX.guardIx, SX.evOp, SX.opd, SX.opds, SX.optOpd, SX.look, SX.putS, SX.gobs, SX.AllP, SX.leave, SX.lookC, SX.lookB, SX.lookT, SX.lookN, SX.findK, SX.evBuiltin, SX.ints, SX.foldI, SX.evBin, SX.evInt, SX.evStr, SX.evEq, SX.arith, SX.evLoad, SX.shapeUp, SX.evFieldAddr, SX.evField, SX.evIndexAddr, SX.evIndex, SX.evFill, SX.evBuild, SX.szs, SX.cellsV, SX.evNew, SX.evStore, SX.spliceL, SX.SV.cells, SX.evConv, SX.evSlice, SX.bnd, SX.evNil, SX.evUn, SX.evPick, SX.pickOpd, SX.popTo, SX.cnd, SX.env0, SX.TD.isAgg, SX.TD.isIface, SX.tails, SX.NotAgg, SX.evLookup, SX.evConvH, SX.evPtrEq, SX.isCells, SX.thaw, SX.frz, SX.fixB, SX.rootIx, SX.Froz, SX.frzStep, SX.fork, Go.Value.cells, Go.undef, cfg21, spnC, hx, g1, g2]
        refine ⟨by (unfold SX.Ob; first | trivial | omega | ((try simp only [SX.inK]); (try simp [SX.den, SX.IsU8, SX.AllP, *]); (try omega))), ?_⟩
        intro a15 w15 hr15' _
        have hr15 := h14.unbase hr15'
        have z15 : w12.heap.size ≤ w15.heap.size := hr15.keeps.size
        have hO15 := hO13.keep hr15'.keeps (by simp [frameAt, mutB])
        refine post_app (C := cfg21) cfg21_ok hr15 (by first | exact wanted_none rfl | exact wanted_zero (hr15.env.same rfl rfl rfl rfl) rfl (by simp)) rfl (by simp) rfl rfl rfl rfl rfl rfl rfl rfl rfl (by decide) (flatS _) (by (try simp only [List.length_append, List.length_cons, List.length_nil, List.length_map, List.length_take]); omega) (fun x hx => Nat.le_trans z15 hx) hO15 (RdS.lit (x := giv f t o e x) hr15.all.2.2.1.1 (by simp [spnC, hgx])) [] (fun _ _ _ _ => trivial) (fun x hx => .inl hx) fun V16 a16 w16 B16 hO16 hB16 hk16 hr16 => ?_
        refine seg cfg21_ok mixed PanicFree.body 1000 [] [] hr16.rebase (by first | trivial | exact HpRep.nil | assumption) (by kernel_rfl) fun s_ hs_ => ?_
        simp (maxSteps := 10000000) [SX.vc, SX.stop, SX.contS, SX.contB, SX.contW, SX.contR, SX.contD, SX.sxStep, SX.stepPure, SX.stepNew, SX.stepStore, SX.stepKeep, SX.guardIx, SX.evOp, SX.opd, SX.opds, SX.optOpd, SX.look, SX.putS, SX.gobs, SX.AllP, SX.leave, SX.lookC, SX.lookB, SX.lookT, SX.lookN, SX.findK, SX.evBuiltin, SX.ints, SX.foldI, SX.evBin, SX.evInt, SX.evStr, SX.evEq, SX.arith, SX.evLoad, SX.shapeUp, SX.evFieldAddr, SX.evField, SX.evIndexAddr, SX.evIndex, SX.evFill, SX.evBuild, SX.szs, SX.cellsV, SX.evNew, SX.evStore, SX.spliceL, SX.SV.cells, SX.evConv, SX.evSlice, SX.bnd, SX.evNil, SX.evUn, SX.evPick, SX.pickOpd, SX.popTo, SX.cnd, SX.env0, SX.TD.isAgg, SX.TD.isIface, SX.tails, SX.NotAgg, SX.evLookup, SX.evConvH, SX.evPtrEq, SX.isCells, SX.thaw, SX.frz, SX.fixB, SX.rootIx, SX.Froz, SX.frzStep, SX.fork, Go.Value.cells, Go.undef, cfg21]
        refine ⟨by (unfold SX.Ob; first | trivial | omega | ((try simp only [SX.inK]); (try simp [SX.den, SX.IsU8, SX.AllP, *]); (try omega))), ?_⟩
        intro a17 w17 hr17' _
        have hr17 := hr16.unbase hr17'
        exact post_rnd (C.length - (k + 1)) (by omega) ⟨k + 1, V16, rfl, hlt, by rw [hstep]; exact hO16.keep hr17'.keeps (by simp [frameAt, mutB]), hr17.re (by simp [envTo, SX.look, den]) trivial rfl rfl⟩
      · have hgx : giv f t o e x = x := if_neg fun h => g2 h.2
        refine seg cfg21_ok mixed PanicFree.body 1000 [true, false] [(68, true)] h14.rebase (by first | trivial | exact HpRep.nil | assumption) (by kernel_rfl) fun s_ hs_ => ?_
        simp (maxSteps := 10000000) [SX.vc, SX.stop, SX.contS, SX.contB, SX.contW, SX.contR, SX.contD, SX.sxStep, SX.stepPure, SX.stepNew, SX.stepStore, SX.stepKeep, SX.guardIx, SX.evOp, SX.opd, SX.opds, SX.optOpd, SX.look, SX.putS, SX.gobs, SX.AllP, SX.leave, SX.lookC, SX.lookB, SX.lookT, SX.lookN, SX.findK, SX.evBuiltin, SX.ints, SX.foldI, SX.evBin, SX.evInt, SX.evStr, SX.evEq, SX.arith, SX.evLoad, SX.shapeUp, SX.evFieldAddr, SX.evField, SX.evIndexAddr, SX.evIndex, SX.evFill, SX.evBuild, SX.szs, SX.cellsV, SX.evNew, SX.evStore, SX.spliceL, SX.SV.cells, SX.evConv, SX.evSlice, SX.bnd, SX.evNil, SX.evUn, SX.evPick, SX.pickOpd, SX.popTo, SX.cnd, SX.env0, SX.TD.isAgg, SX.TD.isIface, SX.tails, SX.NotAgg, SX.evLookup, SX.evConvH, SX.evPtrEq, SX.isCells, SX.thaw, SX.frz, SX.fixB, SX.rootIx, SX.Froz, SX.frzStep, SX.fork, Go.Value.cells, Go.undef, cfg21, spnC, hx, g1, g2]
        refine ⟨by (unfold SX.Ob; first | trivial | omega | ((try simp only [SX.inK]); (try simp [SX.den, SX.IsU8, SX.AllP, *]); (try omega))), ?_⟩
        intro a15 w15 hr15' _
        have hr15 := h14.unbase hr15'
        have z15 : w12.heap.size ≤ w15.heap.size := hr15.keeps.size
        have hO15 := hO13.keep hr15'.keeps (by simp [frameAt, mutB])
        refine post_app (C := cfg21) cfg21_ok hr15 (by first | exact wanted_none rfl | exact wanted_zero (hr15.env.same rfl rfl rfl rfl) rfl (by simp)) rfl (by simp) rfl rfl rfl rfl rfl rfl rfl rfl rfl (by decide) (flatS _) (by (try simp only [List.length_append, List.length_cons, List.length_nil, List.length_map, List.length_take]); omega) (fun x hx => Nat.le_trans z15 hx) hO15 (RdS.lit (x := giv f t o e x) hr15.all.2.2.1.1 (by simp [spnC, hgx])) [] (fun _ _ _ _ => trivial) (fun x hx => .inl hx) fun V16 a16 w16 B16 hO16 hB16 hk16 hr16 => ?_
        refine seg cfg21_ok mixed PanicFree.body 1000 [] [] hr16.rebase (by first | trivial | exact HpRep.nil | assumption) (by kernel_rfl) fun s_ hs_ => ?_
        simp (maxSteps := 10000000) [SX.vc, SX.stop, SX.contS, SX.contB, SX.contW, SX.contR, SX.contD, SX.sxStep, SX.stepPure, SX.stepNew, SX.stepStore, SX.stepKeep, SX.guardIx, SX.evOp, SX.opd, SX.opds, SX.optOpd, SX.look, SX.putS, SX.gobs, SX.AllP, SX.leave, SX.lookC, SX.lookB, SX.lookT, SX.lookN, SX.findK, SX.evBuiltin, SX.ints, SX.foldI, SX.evBin, SX.evInt, SX.evStr, SX.evEq, SX.arith, SX.evLoad, SX.shapeUp, SX.evFieldAddr, SX.evField, SX.evIndexAddr, SX.evIndex, SX.evFill, SX.evBuild, SX.szs, SX.cellsV, SX.evNew, SX.evStore, SX.spliceL, SX.SV.cells, SX.evConv, SX.evSlice, SX.bnd, SX.evNil, SX.evUn, SX.evPick, SX.pickOpd, SX.popTo, SX.cnd, SX.env0, SX.TD.isAgg, SX.TD.isIface, SX.tails, SX.NotAgg, SX.evLookup, SX.evConvH, SX.evPtrEq, SX.isCells, SX.thaw, SX.frz, SX.fixB, SX.rootIx, SX.Froz, SX.frzStep, SX.fork, Go.Value.cells, Go.undef, cfg21]
        refine ⟨by (unfold SX.Ob; first | trivial | omega | ((try simp only [SX.inK]); (try simp [SX.den, SX.IsU8, SX.AllP, *]); (try omega))), ?_⟩
        intro a17 w17 hr17' _
        have hr17 := hr16.unbase hr17'
        exact post_rnd (C.length - (k + 1)) (by omega) ⟨k + 1, V16, rfl, hlt, by rw [hstep]; exact hO16.keep hr17'.keeps (by simp [frameAt, mutB]), hr17.re (by simp [envTo, SX.look, den]) trivial rfl rfl⟩
    · have hgx : giv f t o e x = x := if_neg fun h => g1 h.1
      refine seg cfg21_ok mixed PanicFree.body 1000 [true, false] [(68, false)] h14.rebase (by first | trivial | exact HpRep.nil | assumption) (by kernel_rfl) fun s_ hs_ => ?_
      simp (maxSteps := 10000000) [SX.vc, SX.stop, SX.contS, SX.contB, SX.contW, SX.contR, SX.contD, SX.sxStep, SX.stepPure, SX.stepNew, SX.stepStore, SX.stepKeep, SX.guardIx, SX.evOp, SX.opd, SX.opds, SX.optOpd, SX.look, SX.putS, SX.gobs, SX.AllP, SX.leave, SX.lookC, SX.lookB, SX.lookT, SX.lookN, SX.findK, SX.evBuiltin, SX.ints, SX.foldI, SX.evBin, SX.evInt, SX.evStr, SX.evEq, SX.arith, SX.evLoad, SX.shapeUp, SX.evFieldAddr, SX.evField, SX.evIndexAddr, SX.evIndex, SX.evFill, SX.evBuild, SX.szs, SX.cellsV, SX.evNew, SX.evStore, SX.spliceL, SX.SV.cells, SX.evConv, SX.evSlice, SX.bnd, SX.evNil, SX.evUn, SX.evPick, SX.pickOpd, SX.popTo, SX.cnd, SX.env0, SX.TD.isAgg, SX.TD.isIface, SX.tails, SX.NotAgg, SX.evLookup, SX.evConvH, SX.evPtrEq, SX.isCells, SX.thaw, SX.frz, SX.fixB, SX.rootIx, SX.Froz, SX.frzStep, SX.fork, Go.Value.cells, Go.undef, cfg21, spnC, hx, g1]
      refine ⟨by (unfold SX.Ob; first | trivial | omega | ((try simp only [SX.inK]); (try simp [SX.den, SX.IsU8, SX.AllP, *]); (try omega))), ?_⟩
      intro a15 w15 hr15' _
      have hr15 := h14.unbase hr15'
      have z15 : w12.heap.size ≤ w15.heap.size := hr15.keeps.size
      have hO15 := hO13.keep hr15'.keeps (by simp [frameAt, mutB])
      refine post_app (C := cfg21) cfg21_ok hr15 (by first | exact wanted_none rfl | exact wanted_zero (hr15.env.same rfl rfl rfl rfl) rfl (by simp)) rfl (by simp) rfl rfl rfl rfl rfl rfl rfl rfl rfl (by decide) (flatS _) (by (try simp only [List.length_append, List.length_cons, List.length_nil, List.length_map, List.length_take]); omega) (fun x hx => Nat.le_trans z15 hx) hO15 (RdS.lit (x := giv f t o e x) hr15.all.2.2.1.1 (by simp [spnC, hgx])) [] (fun _ _ _ _ => trivial) (fun x hx => .inl hx) fun V16 a16 w16 B16 hO16 hB16 hk16 hr16 => ?_
      refine seg cfg21_ok mixed PanicFree.body 1000 [] [] hr16.rebase (by first | trivial | exact HpRep.nil | assumption) (by kernel_rfl) fun s_ hs_ => ?_
      simp (maxSteps := 10000000) [SX.vc, SX.stop, SX.contS, SX.contB, SX.contW, SX.contR, SX.contD, SX.sxStep, SX.stepPure, SX.stepNew, SX.stepStore, SX.stepKeep, SX.guardIx, SX.evOp, SX.opd, SX.opds, SX.optOpd, SX.look, SX.putS, SX.gobs, SX.AllP, SX.leave, SX.lookC, SX.lookB, SX.lookT, SX.lookN, SX.findK, SX.evBuiltin, SX.ints, SX.foldI, SX.evBin, SX.evInt, SX.evStr, SX.evEq, SX.arith, SX.evLoad, SX.shapeUp, SX.evFieldAddr, SX.evField, SX.evIndexAddr, SX.evIndex, SX.evFill, SX.evBuild, SX.szs, SX.cellsV, SX.evNew, SX.evStore, SX.spliceL, SX.SV.cells, SX.evConv, SX.evSlice, SX.bnd, SX.evNil, SX.evUn, SX.evPick, SX.pickOpd, SX.popTo, SX.cnd, SX.env0, SX.TD.isAgg, SX.TD.isIface, SX.tails, SX.NotAgg, SX.evLookup, SX.evConvH, SX.evPtrEq, SX.isCells, SX.thaw, SX.frz, SX.fixB, SX.rootIx, SX.Froz, SX.frzStep, SX.fork, Go.Value.cells, Go.undef, cfg21]
      refine ⟨by (unfold SX.Ob; first | trivial | omega | ((try simp only [SX.inK]); (try simp [SX.den, SX.IsU8, SX.AllP, *]); (try omega))), ?_⟩
      intro a17 w17 hr17' _
      have hr17 := hr16.unbase hr17'
      exact post_rnd (C.length - (k + 1)) (by omega) ⟨k + 1, V16, rfl, hlt, by rw [hstep]; exact hO16.keep hr17'.keeps (by simp [frameAt, mutB]), hr17.re (by simp [envTo, SX.look, den]) trivial rfl rfl⟩
  · obtain rfl : k = C.length := by omega
    rw [List.take_length] at hO13
    refine seg cfg21_ok mixed PanicFree.body 1000 [false] [] hr13.rebase (by first | trivial | exact HpRep.nil | assumption) (by kernel_rfl) fun s_ hs_ => ?_
    simp (maxSteps := 10000000) [SX.vc, SX.stop, SX.contS, SX.contB, SX.contW, SX.contR, SX.contD, SX.sxStep, SX.stepPure, SX.stepNew, SX.stepStore, SX.stepKeep, SX.guardIx, SX.evOp, SX.opd, SX.opds, SX.optOpd, SX.look, SX.putS, SX.gobs, SX.AllP, SX.leave, SX.lookC, SX.lookB, SX.lookT, SX.lookN, SX.findK, SX.evBuiltin, SX.ints, SX.foldI, SX.evBin, SX.evInt, SX.evStr, SX.evEq, SX.arith, SX.evLoad, SX.shapeUp, SX.evFieldAddr, SX.evField, SX.evIndexAddr, SX.evIndex, SX.evFill, SX.evBuild, SX.szs, SX.cellsV, SX.evNew, SX.evStore, SX.spliceL, SX.SV.cells, SX.evConv, SX.evSlice, SX.bnd, SX.evNil, SX.evUn, SX.evPick, SX.pickOpd, SX.popTo, SX.cnd, SX.env0, SX.TD.isAgg, SX.TD.isIface, SX.tails, SX.NotAgg, SX.evLookup, SX.evConvH, SX.evPtrEq, SX.isCells, SX.thaw, SX.frz, SX.fixB, SX.rootIx, SX.Froz, SX.frzStep, SX.fork, Go.Value.cells, Go.undef, cfg21]
    refine ⟨by (unfold SX.Ob; first | trivial | omega | ((try simp only [SX.inK]); (try simp [SX.den, SX.IsU8, SX.AllP, *]); (try omega))), ?_⟩
    intro a15 w15 hr15' _
    have hr15 := hr12.unbase (hr13.unbase hr15')
    have hO15 := hO13.keep hr15'.keeps (by simp [frameAt, mutB])
    have hjg := (rjoin_ok w15 v' (C.map (giv f t o e)) hO15.rd (by simp; omega)).mono (R' := fun ev w' => ∃ v', ev = .returned (den (.tu [.v v', .v (.int .i64 0)])) ∧ OwP (fun x => w15.heap.size ≤ x) w' v' (joinS (C.map (giv f t o e))) ∧ Below w15.heap.size w15 w') fun ev w' h => by
      rcases h with ⟨⟨_, v', he, hv⟩ | ⟨hn, _⟩, hb⟩
      · exact ⟨v', he, hv, hb⟩
      · exact absurd hXC hn
    refine post_call 20 [.v v'] hr15 (by first | exact wanted_none rfl | exact wanted_zero (hr15.env.same rfl rfl rfl rfl) rfl (by simp)) rfl (callable 20 Try.func20) (hjg) ?_
    rintro e16 w16 ⟨v16, rfl, hO16, hb16⟩
    refine ⟨_, rfl, ?_⟩
    have h16 := hr15.ret hb16 84 (.tu [.v v16, .v (.int .i64 0)]) rfl _ (hr15.all.below hb16) (by simp) rfl
    have z15 : w.heap.size ≤ w15.heap.size := hr15.keeps.size
    refine seg cfg21_ok mixed PanicFree.body 1000 [] [] h16.rebase (by first | trivial | exact HpRep.nil | assumption) (by kernel_rfl) fun s_ hs_ => ?_
    simp (maxSteps := 10000000) [SX.vc, SX.stop, SX.contS, SX.contB, SX.contW, SX.contR, SX.contD, SX.sxStep, SX.stepPure, SX.stepNew, SX.stepStore, SX.stepKeep, SX.guardIx, SX.evOp, SX.opd, SX.opds, SX.optOpd, SX.look, SX.putS, SX.gobs, SX.AllP, SX.leave, SX.lookC, SX.lookB, SX.lookT, SX.lookN, SX.findK, SX.evBuiltin, SX.ints, SX.foldI, SX.evBin, SX.evInt, SX.evStr, SX.evEq, SX.arith, SX.evLoad, SX.shapeUp, SX.evFieldAddr, SX.evField, SX.evIndexAddr, SX.evIndex, SX.evFill, SX.evBuild, SX.szs, SX.cellsV, SX.evNew, SX.evStore, SX.spliceL, SX.SV.cells, SX.evConv, SX.evSlice, SX.bnd, SX.evNil, SX.evUn, SX.evPick, SX.pickOpd, SX.popTo, SX.cnd, SX.env0, SX.TD.isAgg, SX.TD.isIface, SX.tails, SX.NotAgg, SX.evLookup, SX.evConvH, SX.evPtrEq, SX.isCells, SX.thaw, SX.frz, SX.fixB, SX.rootIx, SX.Froz, SX.frzStep, SX.fork, Go.Value.cells, Go.undef, cfg21]
    refine ⟨by (unfold SX.Ob; first | trivial | omega | ((try simp only [SX.inK]); (try simp [SX.den, SX.IsU8, SX.AllP, *]); (try omega))), ?_⟩
    intro a17 w17 hr17' _
    have hr17 := h16.unbase hr17'
    exact post_retn (end2 hr17 rfl rfl rfl ⟨v16, by rw [hE]; simp [den, denL], by rw [hG]; exact (hO16.mono (P' := fun x => w.heap.size ≤ x) fun x _ h => by omega).keep hr17'.keeps (by simp [frameAt, mutB]), hr17.keeps.toBelow⟩).1
end Go.Proofs
