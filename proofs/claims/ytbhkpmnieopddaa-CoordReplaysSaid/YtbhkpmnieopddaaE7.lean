/- E7: texts of this proof, joined. -/
import Derived.Test.YtbhkpmnieopddaaE2
import Derived.Test.YtbhkpmnieopddaaE6
set_option linter.unusedVariables false
set_option linter.unusedSimpArgs false
set_option linter.unusedSectionVars false
namespace Go.Proofs.C8
open Go Go.Proofs Go.SX Go.RowKit Go.Proofs.L6
set_option maxRecDepth 100000 in
set_option maxHeartbeats 8000000 in
theorem bin1_ok (w : World) (x : Lse) (y : Int) : Calls Try.prog 52 (denL [.ag (lseC x), .v (.int .i64 y)]).toArray w (Ret w (.v (.int .i64 (cmpI x.k y)))) := by
  refine enter (F := frame0 w) Try.func52 rfl [.ag (lseC x), .v (.int .i64 y)] [] (by simp [Try.f52]) trivial (keeps0 w) fun a hr => ?_
  refine seg cfg52_ok mixed PanicFree.body 1000 [] [] hr (by first | trivial | exact HpRep.nil | assumption) (by kernel_rfl) fun s_ hs_ => ?_
  simp (maxSteps := 10000000) [SX.vc, SX.stop, SX.contS, SX.sxStep, SX.stepPure, SX.stepNew, SX.stepStore, SX.guardIx, SX.evOp, SX.opd, SX.look, SX.putS, SX.gobs, SX.AllP, SX.leave, SX.lookT, SX.evLoad, SX.shapeUp, SX.evFieldAddr, SX.evNew, SX.evStore, SX.SV.cells, SX.env0, SX.TD.isAgg, cfg52, Try.f52, lseC]
  refine ⟨by (unfold SX.Ob; first | trivial | omega | ((try simp only [SX.inK]); (try simp [SX.den, SX.IsU8, SX.AllP, *]); (try omega))), ?_⟩
  intro a1 w1 hr1 _
  refine post_call 53 [.v (.int .i64 x.k), .v (.int .i64 y)] hr1 (by first | exact wanted_none rfl | exact wanted_zero (hr1.env.same rfl rfl rfl rfl) rfl (by simp) | exact wanted_zero (hr1.env.same rfl rfl rfl rfl) rfl (by simp [*])) rfl (callable 53 Try.func53) (cmp_ok w1 x.k y) ?_
  rintro e2 w2 ⟨rfl, hb2⟩
  refine ⟨_, rfl, ?_⟩
  have h2 := hr1.ret hb2 8 (.v (.int .i64 (cmpI x.k y))) rfl _ (hr1.all.below hb2) (by simp) rfl
  refine seg cfg52_ok mixed PanicFree.body 1000 [] [] h2 (by first | trivial | exact HpRep.nil | assumption) (by kernel_rfl) fun s_ hs_ => ?_
  simp (maxSteps := 10000000) [SX.vc, SX.stop, SX.contS, SX.sxStep, SX.stepPure, SX.guardIx, SX.evOp, SX.opd, SX.look, SX.putS, SX.gobs, SX.AllP, SX.leave, cfg52]
  refine ⟨by (unfold SX.Ob; first | trivial | omega | ((try simp only [SX.inK]); (try simp [SX.den, SX.IsU8, SX.AllP, *]); (try omega))), ?_⟩
  intro a3 w3 hr3 _
  exact post_retn (end1 hr3 rfl rfl ⟨rfl, hr3.keeps.toBelow⟩).1
def Bs2Loop (w : World) (v : Value) (L : List Lse) (y : Int) (m : Nat) (a : Act) (w' : World) : Prop :=
  ∃ lo hi : Nat, m = hi - lo ∧ lo ≤ hi ∧ hi ≤ L.length ∧ (Srt L → (∀ j, j < lo → (nth lse0 L j).k < y) ∧ ∀ j, hi ≤ j → j < L.length → y ≤ (nth lse0 L j).k) ∧
    RepX (frame0 w) ⟨[(9, 0, .v (.int .i64 lo)), (10, 0, .v (.int .i64 hi)), (8, 0, .v (.int .i64 L.length)), (0, 0, .v v), (1, 0, .v (.int .i64 y)), (2, 0, .fn (.func 52) [] []), (6, 0, .v (.int .i64 0)), (7, 0, .v (.bool false))], [], 0, 0, 49, [], [], []⟩ a w'
set_option maxRecDepth 100000 in
set_option maxHeartbeats 8000000 in
theorem bin2_ok {P : Nat → Prop} (w : World) (v : Value) (L : List Lse) (y : Int) (hL : RdL P w v L) (hn : L.length ≤ 1000000000000000) : Calls Try.prog 51 (denL [.v v, .v (.int .i64 y), .fn (.func 52) [] []]).toArray w (BinR w L y) := by
  obtain ⟨ad, cp, rfl⟩ := hL.slice
  refine enter (F := frame0 w) Try.func51 rfl [.v (.slice ad L.length cp), .v (.int .i64 y), .fn (.func 52) [] []] [] (by simp [Try.f51]) trivial (keeps0 w) fun a hr => ?_
  refine seg cfg51_ok mixed PanicFree.body 1000 [] [] hr (by first | trivial | exact HpRep.nil | assumption) (by kernel_rfl) fun s_ hs_ => ?_
  simp (maxSteps := 10000000) [SX.vc, SX.stop, SX.contS, SX.sxStep, SX.stepPure, SX.guardIx, SX.evOp, SX.opd, SX.opds, SX.look, SX.putS, SX.gobs, SX.AllP, SX.leave, SX.lookT, SX.evBuiltin, SX.env0, cfg51, Try.f51]
  refine ⟨by (unfold SX.Ob; first | trivial | omega | ((try simp only [SX.inK]); (try simp [SX.den, SX.IsU8, SX.AllP, *]); (try omega))), ?_⟩
  intro a1 w1 hr1 _
  refine post_loop (Bs2Loop w (.slice ad L.length cp) L y) L.length ⟨0, L.length, rfl, by omega, by omega, fun _ => ⟨by omega, by omega⟩, hr1.re (by simp [envTo, SX.look]) trivial rfl rfl⟩ ?_
  rintro m a2 w2 ⟨lo, hi, rfl, hlh, hhn, hs, hr2⟩
  by_cases hlt : lo < hi
  · obtain ⟨mid, hmid⟩ : ∃ mid : Nat, (lo + hi) / 2 = mid := ⟨_, rfl⟩
    obtain ⟨b, o0, cap, u, fz, hP, hv, hrep⟩ := hL.opn (show mid < L.length by omega)
    cases hv
    have hrep2 := SO.rep_same hrep (hr2.keeps.toBelow.block _ (SO.rep_lt hrep))
    obtain ⟨x, hx⟩ : ∃ x, nth lse0 L mid = x := ⟨_, rfl⟩
    have h2 := (hr2.top 0 (.sl 0 b o0 0 L.length cp 4) rfl (by simp [den])).see _ (HpAll.one hrep2)
    have hm := mid_ok lo hi (by omega)
    rw [hmid] at hm
    refine seg cfg51_ok mixed PanicFree.body 1000 [true] [] h2 (by first | trivial | exact HpRep.nil | assumption) (by kernel_rfl) fun s_ hs_ => ?_
    simp (maxSteps := 10000000) [SX.vc, SX.stop, SX.contS, SX.contB, SX.sxStep, SX.stepPure, SX.stepNew, SX.stepStore, SX.guardIx, SX.evOp, SX.opd, SX.look, SX.putS, SX.gobs, SX.AllP, SX.leave, SX.lookT, SX.evBin, SX.evInt, SX.arith, SX.evLoad, SX.shapeUp, SX.evIndexAddr, SX.evNew, SX.evStore, SX.evConv, SX.TD.isAgg, SX.evConvH, cfg51, lseC, hx, hm]
    refine ⟨by (unfold SX.Ob; first | trivial | omega | ((try simp only [SX.inK]); (try simp [SX.den, SX.IsU8, SX.AllP, *]); (try omega))), ?_⟩
    intro a3 w3 hr3 _
    refine post_call 52 [.ag (lseC x), .v (.int .i64 y)] hr3 (by first | exact wanted_none rfl | exact wanted_zero (hr3.env.same rfl rfl rfl rfl) rfl (by simp) | exact wanted_zero (hr3.env.same rfl rfl rfl rfl) rfl (by simp [*])) rfl (callable 52 Try.func52) (bin1_ok w3 x y) ?_
    rintro e4 w4 ⟨rfl, hb4⟩
    refine ⟨_, rfl, ?_⟩
    have h4 := hr3.ret hb4 30 (.v (.int .i64 (cmpI x.k y))) rfl _ (hr3.all.below hb4) (by simp) rfl
    by_cases hc : cmpI x.k y < 0
    · have hc' := cmpI_lt.1 hc
      refine seg cfg51_ok mixed PanicFree.body 1000 [true] [] h4 (by first | trivial | exact HpRep.nil | assumption) (by kernel_rfl) fun s_ hs_ => ?_
      simp (maxSteps := 10000000) [SX.vc, SX.stop, SX.contS, SX.contB, SX.sxStep, SX.stepPure, SX.guardIx, SX.evOp, SX.opd, SX.look, SX.putS, SX.gobs, SX.AllP, SX.leave, SX.evBin, SX.evInt, SX.arith, cfg51, hc]
      refine ⟨by (unfold SX.Ob; first | trivial | omega | ((try simp only [SX.inK]); (try simp [SX.den, SX.IsU8, SX.AllP, *]); (try omega))), ?_⟩
      intro a5 w5 hr5 _
      exact post_rnd (hi - (mid + 1)) (by omega) ⟨mid + 1, hi, rfl, by omega, hhn, fun h => ⟨fun j hj => by
        rcases Nat.lt_or_ge j mid with hj1 | hj1
        · have h1 := h j mid hj1 (by omega)
          rw [hx] at h1
          omega
        · obtain rfl : j = mid := by omega
          rw [hx]; exact hc', (hs h).2⟩, hr5.re (by simp [envTo, SX.look, den]) trivial rfl rfl⟩
    · have hc' : y ≤ x.k := by have := mt cmpI_lt.2 hc; omega
      refine seg cfg51_ok mixed PanicFree.body 1000 [false] [] h4 (by first | trivial | exact HpRep.nil | assumption) (by kernel_rfl) fun s_ hs_ => ?_
      simp (maxSteps := 10000000) [SX.vc, SX.stop, SX.contS, SX.contB, SX.sxStep, SX.stepPure, SX.guardIx, SX.evOp, SX.opd, SX.look, SX.putS, SX.gobs, SX.AllP, SX.leave, SX.evBin, SX.evInt, SX.arith, cfg51, hc]
      refine ⟨by (unfold SX.Ob; first | trivial | omega | ((try simp only [SX.inK]); (try simp [SX.den, SX.IsU8, SX.AllP, *]); (try omega))), ?_⟩
      intro a5 w5 hr5 _
      exact post_rnd (mid - lo) (by omega) ⟨lo, mid, rfl, by omega, by omega, fun h => ⟨(hs h).1, fun j hj hjl => by
        rcases Nat.lt_or_ge mid j with hj1 | hj1
        · have h1 := h mid j hj1 hjl
          rw [hx] at h1
          omega
        · obtain rfl : j = mid := by omega
          rw [hx]; exact hc'⟩, hr5.re (by simp [envTo, SX.look, den]) trivial rfl rfl⟩
  · obtain rfl : lo = hi := by omega
    have hpl : PlaceP L y lo := ⟨hhn, hs⟩
    by_cases hll : lo < L.length
    · obtain ⟨b, o0, cap, u, fz, hP, hv, hrep⟩ := hL.opn hll
      cases hv
      have hrep2 := SO.rep_same hrep (hr2.keeps.toBelow.block _ (SO.rep_lt hrep))
      obtain ⟨x, hx⟩ : ∃ x, nth lse0 L lo = x := ⟨_, rfl⟩
      have h2 := (hr2.top 0 (.sl 0 b o0 0 L.length cp 4) rfl (by simp [den])).see _ (HpAll.one hrep2)
      refine seg cfg51_ok mixed PanicFree.body 1000 [false] [(39, true)] h2 (by first | trivial | exact HpRep.nil | assumption) (by kernel_rfl) fun s_ hs_ => ?_
      simp (maxSteps := 10000000) [SX.vc, SX.stop, SX.contS, SX.contB, SX.contW, SX.sxStep, SX.stepPure, SX.stepNew, SX.stepStore, SX.guardIx, SX.evOp, SX.opd, SX.look, SX.putS, SX.gobs, SX.AllP, SX.leave, SX.lookB, SX.lookT, SX.evBin, SX.evInt, SX.evLoad, SX.shapeUp, SX.evIndexAddr, SX.evNew, SX.evStore, SX.popTo, SX.cnd, SX.TD.isAgg, cfg51, lseC, hx, hll]
      refine ⟨by (unfold SX.Ob; first | trivial | omega | ((try simp only [SX.inK]); (try simp [SX.den, SX.IsU8, SX.AllP, *]); (try omega))), ?_⟩
      intro a3 w3 hr3 _
      refine post_call 52 [.ag (lseC x), .v (.int .i64 y)] hr3 (by first | exact wanted_none rfl | exact wanted_zero (hr3.env.same rfl rfl rfl rfl) rfl (by simp) | exact wanted_zero (hr3.env.same rfl rfl rfl rfl) rfl (by simp [*])) rfl (callable 52 Try.func52) (bin1_ok w3 x y) ?_
      rintro e4 w4 ⟨rfl, hb4⟩
      refine ⟨_, rfl, ?_⟩
      have h4 := hr3.ret hb4 46 (.v (.int .i64 (cmpI x.k y))) rfl _ (hr3.all.below hb4) (by simp) rfl
      refine seg cfg51_ok mixed PanicFree.body 1000 [] [(39, true)] h4 (by first | trivial | exact HpRep.nil | assumption) (by kernel_rfl) fun s_ hs_ => ?_
      simp (maxSteps := 10000000) [SX.vc, SX.stop, SX.contS, SX.sxStep, SX.stepPure, SX.guardIx, SX.evOp, SX.opd, SX.look, SX.putS, SX.gobs, SX.AllP, SX.leave, SX.lookB, SX.evBin, SX.evInt, SX.evPick, SX.cnd, cfg51]
      refine ⟨by (unfold SX.Ob; first | trivial | omega | ((try simp only [SX.inK]); (try simp [SX.den, SX.IsU8, SX.AllP, *]); (try omega))), ?_⟩
      intro a5 w5 hr5 _
      refine post_retn (end2 hr5 rfl rfl rfl ⟨lo, ?_, hpl, hr5.keeps.toBelow⟩).1
      have : isAt L y lo = (cmpI x.k y == 0) := by
        rw [Bool.eq_iff_iff, beq_iff_eq, cmpI_eq]
        simp [isAt, hx, hll]
      rw [this]
      simp [den, denL]
    · refine seg cfg51_ok mixed PanicFree.body 1000 [false] [(39, false)] hr2 (by first | trivial | exact HpRep.nil | assumption) (by kernel_rfl) fun s_ hs_ => ?_
      simp (maxSteps := 10000000) [SX.vc, SX.stop, SX.contS, SX.contB, SX.contW, SX.sxStep, SX.stepPure, SX.guardIx, SX.evOp, SX.opd, SX.look, SX.putS, SX.gobs, SX.AllP, SX.leave, SX.lookB, SX.evBin, SX.evInt, SX.evPick, SX.popTo, SX.cnd, Go.undef, cfg51, hll]
      refine ⟨by (unfold SX.Ob; first | trivial | omega | ((try simp only [SX.inK]); (try simp [SX.den, SX.IsU8, SX.AllP, *]); (try omega))), ?_⟩
      intro a3 w3 hr3 _
      refine post_retn (end2 hr3 rfl rfl rfl ⟨lo, ?_, hpl, hr3.keeps.toBelow⟩).1
      have : isAt L y lo = false := by simp [isAt, hll]
      rw [this]
      simp [den, denL]
end Go.Proofs.C8
namespace Go.Proofs.C8
open Go Go.Proofs Go.SX Go.RowKit Go.Proofs.L6
def cfg24m : Cfg := { tt := [(72, ⟨.ptr 74, 1, 8, .pointer none⟩), (43, ⟨.struct [(0, 41), (1, 3), (2, 29)], 3, 40, .agg #[.int .i64 0, .int .i64 0, .slice none 0 0]⟩), (74, ⟨.struct [(0, 31), (7, 47)], 15, 168, .agg #[.int .i64 0, .int .i64 0, .slice none 0 0, .slice none 0 0, .slice none 0 0, .int .i64 0, .int .i64 0, .int .i64 0, .int .i64 0, .int .i64 0, .int .i64 0, .int .i64 0, .int .i64 0, .int .i64 0, .int .i64 0]⟩), (31, ⟨.struct [(0, 27), (3, 28), (4, 29), (5, 3), (6, 3)], 7, 104, .agg #[.int .i64 0, .int .i64 0, .slice none 0 0, .slice none 0 0, .slice none 0 0, .int .i64 0, .int .i64 0]⟩), (29, ⟨.slice 52, 1, 24, .slice none 0 0⟩), (97, ⟨.func, 1, 8, .nilFunc⟩), (3, ⟨.int .i64, 1, 8, .int .i64 0⟩), (41, ⟨.int .i64, 1, 8, .int .i64 0⟩), (52, ⟨.struct [(0, 3), (1, 3), (2, 3)], 3, 24, .agg #[.int .i64 0, .int .i64 0, .int .i64 0]⟩), (47, ⟨.struct [(0, 3), (1, 3), (2, 3), (3, 3), (4, 3), (5, 3), (6, 3), (7, 3)], 8, 64, .agg #[.int .i64 0, .int .i64 0, .int .i64 0, .int .i64 0, .int .i64 0, .int .i64 0, .int .i64 0, .int .i64 0]⟩), (27, ⟨.struct [(0, 3), (1, 3), (2, 25)], 3, 40, .agg #[.int .i64 0, .int .i64 0, .slice none 0 0]⟩), (38, ⟨.struct [(0, 3), (1, 3), (2, 3), (3, 3)], 4, 32, .agg #[.int .i64 0, .int .i64 0, .int .i64 0, .int .i64 0]⟩), (25, ⟨.slice 38, 1, 24, .slice none 0 0⟩), (104, ⟨.func, 1, 8, .nilFunc⟩), (28, ⟨.slice 50, 1, 24, .slice none 0 0⟩), (50, ⟨.struct [(0, 3), (1, 3), (2, 3), (3, 3)], 4, 32, .agg #[.int .i64 0, .int .i64 0, .int .i64 0, .int .i64 0]⟩)], live := [0, 1, 2, 3, 4, 5, 14, 18, 43], dt := [(4, [(0, 0), (1, 0), (2, 0), (3, 0), (4, 0), (5, 0), (6, 0), (7, 0), (8, 0), (9, 0), (10, 0), (11, 0), (12, 0), (13, 0), (14, 0), (15, 0)]), (6, [(0, 0), (1, 0), (2, 0), (3, 0), (4, 0), (5, 0), (6, 0), (7, 0), (8, 0), (9, 0), (10, 0), (11, 0), (12, 0), (13, 0), (14, 0), (15, 0), (16, 0), (17, 0), (18, 0), (19, 0), (20, 0), (21, 0), (22, 0), (23, 0), (24, 0), (25, 0), (26, 0), (27, 0), (28, 1), (29, 3)]), (7, [(6, 2), (7, 2), (8, 2), (0, 5), (1, 3), (2, 2), (3, 2), (4, 2), (5, 3), (9, 3), (10, 2), (11, 2), (12, 2), (13, 3)]), (8, [(0, 0), (1, 0), (2, 0), (3, 0), (4, 0), (5, 0), (6, 0), (7, 0), (8, 1), (9, 0), (10, 0), (11, 0), (12, 0), (13, 0)]), (9, [(7, 2), (0, 5), (1, 5), (2, 2), (3, 2), (4, 2), (5, 2), (8, 8), (8, 1000000), (6, 3), (9, 3), (10, 3), (11, 2), (12, 2), (13, 2), (14, 2), (15, 3), (9, 3), (6, 3), (10, 3), (11, 2), (12, 2), (13, 2), (14, 2), (15, 3)])], nw := true }
theorem cfg24m_ok : TTok Try.prog cfg24m.tt := (TTok.cons tok72 (TTok.cons tok43 (TTok.cons tok74 (TTok.cons tok31 (TTok.cons tok29 (TTok.cons tok97 (TTok.cons tok3 (TTok.cons tok41 (TTok.cons tok52 (TTok.cons tok47 (TTok.cons tok27 (TTok.cons tok38 (TTok.cons tok25 (TTok.cons tok104 (TTok.cons tok28 (TTok.cons tok50 TTok.nil))))))))))))))))
theorem zfz5 {w : World} {D A Z E G : Nat} {m1 m2 m3 m4 m5 : Bool} {o1 o2 o3 o4 o5 : SO} (h1 : o1.rep w D) (h2 : o2.rep w A) (h3 : o3.rep w Z) (h4 : o4.rep w E) (h5 : o5.rep w G) : HpRep [(D, m1, o1), (A, m2, o2), (Z, m3, o3), (E, m4, o4), (G, m5, o5)] w := by
  intro i b m o hi
  rcases i with _ | _ | _ | _ | _ | i
  · cases hi; exact h1
  · cases hi; exact h2
  · cases hi; exact h3
  · cases hi; exact h4
  · cases hi; exact h5
  · simp at hi
theorem ixa_ok {P : Nat → Prop} (w : World) (vW : Value) (c : Co) (e : Evt) (vL vS : Value) (D A : Nat) (hW : RdF P w vW c.W) (hn : c.W.length ≤ 50000) (hne : A ≠ D) (hA : (SO.cells [.ptr 1 D 0] 72).rep w A) (hD : (SO.cells (deskC c e vL vS vW) 74).rep w D) :
    Calls Try.prog 48 (denL [.v vW, .fn (.func 49) [] [.ptr 1 A 0]]).toArray w (fun ev w' => ∃ i : Int, ev = .returned (.int .i64 i) ∧ ((ackI c e < c.W.length → i = (ackI c e : Nat)) ∧ (¬ ackI c e < c.W.length → i = -1)) ∧ Below w.heap.size w w') := by
  refine (ixf_ok 49 (callable 49 Try.func49) w vW c.W (ackQ e) A hW (by omega) (fun w' => (SO.cells [.ptr 1 D 0] 72).rep w' A ∧ (SO.cells (deskC c e vL vS vW) 74).rep w' D) (fun w1 w2 h hk => ⟨KeepsTo.same hk h.1 (by simp), KeepsTo.same hk h.2 (by simp)⟩) ⟨hA, hD⟩ (fun w' x h => ack1_ok w' x A D c e vL vS vW hne h.1 h.2)).mono fun ev w' h => ?_
  rcases h with ⟨⟨k, rfl, hk, hq, hpre⟩ | ⟨rfl, hno⟩, hb⟩
  · have hi : ackI c e = k := by
      refine (List.findIdx_eq hk).2 ⟨by rw [← nth_lt (d := fen0) hk]; exact hq, fun j hj => ?_⟩
      rw [← nth_lt (d := fen0)]
      exact hpre j hj
    exact ⟨k, rfl, ⟨fun _ => by rw [hi], fun h => absurd (hi ▸ hk) h⟩, hb⟩
  · have hi : ¬ ackI c e < c.W.length := fun h => by
      have h2 := List.findIdx_getElem (w := h)
      have h3 := hno _ h
      rw [nth_lt h] at h3
      exact absurd (h3.symm.trans h2) (by decide)
    exact ⟨-1, rfl, ⟨fun h => absurd h hi, fun _ => rfl⟩, hb⟩
set_option maxRecDepth 100000 in
set_option maxHeartbeats 64000000 in
theorem ack_ok {QL QS QW : Nat → Prop} (w : World) (D : Nat) (c : Co) (e : Evt) (vL vS vW : Value) (h : Dsk QL QS QW D w c e vL vS vW) (hs : Small c) (hsrt : Srt c.T.L) (hno : ackI c e < c.W.length → ¬ HasK c.T.L e.z) :
    Calls Try.prog 24 (denL [.ptr 0 D 0]).toArray w (OpR QL QS QW D w e (ackA c e) (ackC c e)) := by
  have n1 := hs.n1
  have n3 := hs.n3
  have n4 := hs.n4
  have t1 := hs.t1
  have t2 := hs.t2
  have u1 := hs.u1
  have u2 := hs.u2
  obtain ⟨Bw, hBw, hW⟩ := OwS.only h.W
  obtain ⟨Bl, hBl, hL⟩ := OwS.only h.L
  have hDw : D < w.heap.size := SO.rep_lt h.rep
  have hDB : ¬ D ∈ Bw := fun hm => h.nW (hBw D hm).1
  have hDl : ¬ D ∈ Bl := fun hm => h.nL (hBl D hm).1
  have hlw : ∀ x, x ∈ Bl → ¬ x ∈ Bw := fun x h1 h2 => h.LW x (hBl x h1).1 (hBw x h2).1
  have hnb : ∀ x, w.heap.size ≤ x → ¬ x ∈ Bw := fun x hx hm => by
    have := (hBw x hm).2
    omega
  have hnl : ∀ x, w.heap.size ≤ x → ¬ x ∈ Bl := fun x hx hm => by
    have := (hBl x hm).2
    omega
  have hE : HpAll ⟨w, w.heap.size, D :: (Bl ++ Bw)⟩ w [(D, true, .cells (deskC c e vL vS vW) 74)] := ⟨⟨h.rep, fun _ => .inr (by simp), by simp⟩, trivial⟩
  have sS : ∀ x ∈ D :: (Bl ++ Bw), ¬ QS x := fun x hx hp => by
    rcases List.mem_cons.1 hx with rfl | hx
    · exact h.nS hp
    · rcases List.mem_append.1 hx with hx | hx
      · exact h.SL x hp (hBl x hx).1
      · exact h.SW x hp (hBw x hx).1
  have hW0 := hW
  have hL0 := hL
  refine enter (F := ⟨w, w.heap.size, D :: (Bl ++ Bw)⟩) Try.func24 rfl [.ptr 0 D 0] _ (by simp [Try.f24]) hE (KeepsTo.refl w _) fun a hr0 => ?_
  refine seg cfg24m_ok mixed PanicFree.body 1000 [] [] hr0.rebase (by first | trivial | exact HpRep.nil | assumption) (by kernel_rfl) fun sA hsA => ?_
  simp (maxSteps := 10000000) [SX.vc, SX.stop, SX.contS, SX.sxStep, SX.stepPure, SX.stepNew, SX.stepStore, SX.guardIx, SX.evOp, SX.opd, SX.opds, SX.look, SX.putS, SX.gobs, SX.AllP, SX.leave, SX.lookT, SX.evLoad, SX.shapeUp, SX.evFieldAddr, SX.cellsV, SX.evNew, SX.evStore, SX.SV.cells, SX.evNil, SX.env0, SX.TD.isAgg, Go.Value.cells, cfg24m, Try.f24, deskC, coC, evC]
  refine ⟨by (unfold SX.Ob; first | trivial | omega | ((try simp only [SX.inK]); (try simp [SX.den, SX.IsU8, SX.AllP, *]); (try omega))), ?_⟩
  intro a1 w1 hr1' _
  have hr1 := hr0.unbase hr1'
  have q1 := hpLt hr1.all
  simp at q1
  have z1 : w.heap.size ≤ w1.heap.size := hr1.keeps.size
  have hW1 := hW0.keep hr1'.keeps (by simp only [mutB]; simp; first | exact hDB | (refine ⟨hDB, ?_⟩; repeat (first | exact hnb _ (by omega) | refine ⟨hnb _ (by omega), ?_⟩)))
  have hL1 := hL0.keep hr1'.keeps (by simp only [mutB]; simp; first | exact hDl | (refine ⟨hDl, ?_⟩; repeat (first | exact hnl _ (by omega) | refine ⟨hnl _ (by omega), ?_⟩)))
  refine post_call 48 [.v vW, .fn (.func 49) [] [.ptr 1 sA 0]] hr1 (by first | exact wanted_none rfl | exact wanted_zero (hr1.env.same rfl rfl rfl rfl) rfl (by simp) | exact wanted_zero (hr1.env.same rfl rfl rfl rfl) rfl (by simp [*])) rfl (callable 48 Try.func48) (ixa_ok w1 vW c e vL vS D sA hW1.rd n4 (by omega) hr1.all.2.1.1 hr1.all.1.1) ?_
  rintro e2 w2 ⟨i, rfl, hi, hb2⟩
  refine ⟨_, rfl, ?_⟩
  have h2 := hr1.ret hb2 13 (.v (.int .i64 i)) rfl _ (hr1.all.below hb2) (by simp) rfl
  have hW2 := hW1.below hb2
  have hL2 := hL1.below hb2
  by_cases hlt : ackI c e < c.W.length
  rotate_left
  · obtain rfl := hi.2 hlt
    refine seg cfg24m_ok mixed PanicFree.body 1000 [true] [] h2 (by first | trivial | exact HpRep.nil | assumption) (by kernel_rfl) fun s_ hs_ => ?_
    simp (maxSteps := 10000000) [SX.vc, SX.stop, SX.contS, SX.contB, SX.contD, SX.sxStep, SX.stepPure, SX.stepNew, SX.stepStore, SX.guardIx, SX.evOp, SX.opd, SX.opds, SX.look, SX.putS, SX.gobs, SX.AllP, SX.leave, SX.lookT, SX.evBin, SX.evInt, SX.evLoad, SX.shapeUp, SX.evFieldAddr, SX.evFill, SX.evBuild, SX.szs, SX.cellsV, SX.evNew, SX.evStore, SX.spliceL, SX.SV.cells, SX.evNil, SX.TD.isAgg, SX.tails, SX.NotAgg, SX.frz, SX.Froz, SX.frzStep, Go.Value.cells, cfg24m]
    refine ⟨by (unfold SX.Ob; first | trivial | omega | ((try simp only [SX.inK]); (try simp [SX.den, SX.IsU8, SX.AllP, *]); (try omega))), ?_⟩
    intro a3 w3 hr3 _
    refine post_call 30 [.v (.int .i64 4)] hr3 (by first | exact wanted_none rfl | exact wanted_zero (hr3.env.same rfl rfl rfl rfl) rfl (by simp) | exact wanted_zero (hr3.env.same rfl rfl rfl rfl) rfl (by simp [*])) rfl (callable 30 Try.func30) (fails_ok _ _) ?_
    rintro e21 w21 ⟨rfl, hb21⟩
    refine ⟨_, rfl, ?_⟩
    have h21 := hr3.ret hb21 17 (.ag (ansC (noA 4) (.slice none 0 0))) rfl _ (hr3.all.below hb21) (by simp) rfl
    refine seg cfg24m_ok mixed PanicFree.body 1000 [] [] h21 (by first | trivial | exact HpRep.nil | assumption) (by kernel_rfl) fun s_ hs_ => ?_
    simp (maxSteps := 10000000) [SX.vc, SX.stop, SX.contS, SX.sxStep, SX.stepPure, SX.stepNew, SX.stepStore, SX.guardIx, SX.evOp, SX.opd, SX.look, SX.putS, SX.AllP, SX.leave, SX.lookT, SX.evNew, SX.evStore, SX.spliceL, SX.SV.cells, SX.NotAgg, cfg24m, ansC, noA]
    refine ⟨by (unfold SX.Ob; first | trivial | omega | ((try simp only [SX.inK]); (try simp [SX.den, SX.IsU8, SX.AllP, *]); (try omega))), ?_⟩
    intro a22 w22 hr22 _
    have hA : ackA c e = noA 4 := by rw [ackA, if_neg hlt]
    exact post_retn (endC1 hr22 rfl rfl rfl tok43 rfl ⟨.slice none 0 0, D :: (Bl ++ Bw), by rw [hA]; rfl, by rw [hA]; exact OwS.nil.rd, fun x hx => (by rcases List.mem_cons.1 hx with rfl | hx; exact .inl rfl; rcases List.mem_append.1 hx with hx | hx; exact .inr (.inl (hBl x hx).1); exact .inr (.inr (hBw x hx).1)), hr22.keeps, fun h' => absurd ((congrArg Ans.er hA).symm.trans h') (by decide)⟩).1
  obtain ⟨n, hn⟩ : ∃ n, ackI c e = n := ⟨_, rfl⟩
  obtain rfl : i = (n : Int) := (hi.1 hlt).trans (by rw [hn])
  have hno := hno hlt
  rw [hn] at hlt
  obtain ⟨x, hx⟩ : ∃ x, nth fen0 c.W n = x := ⟨_, rfl⟩
  obtain ⟨b, N, cap, u, row, hPb, hv, hc0, hc1, hc2, hrep, hrow⟩ := hW2.opn hlt
  subst hv
  have hrw : row n = [.v (.int .i64 x.z), .v (.int .i64 x.h), .v (.int .i64 x.e)] := by rw [hrow n hlt, hx]; rfl
  have hbw := (hBw b hPb).2
  have hDb : D ≠ b := fun e => hDB (e ▸ hPb)
  have q2 := hpLt h2.all
  simp at q2
  have z2 : w.heap.size ≤ w2.heap.size := h2.keeps.size
  have h3 := h2.see [(D, true, .cells [.v (.int .i64 c.T.last), .v (.int .i64 c.T.now), .v vL, .v vS, .sl 3 b 0 0 c.W.length cap 3, .v (.int .i64 c.ttl), .v (.int .i64 c.zn), .v (.int .i64 e.d), .v (.int .i64 e.h), .v (.int .i64 e.z), .v (.int .i64 e.e), .v (.int .i64 e.fr), .v (.int .i64 e.to), .v (.int .i64 e.now), .v (.int .i64 e.key)] 74), (sA, true, .cells [.ptr 0 D 0] 72), (sA + 1, true, .cells [.v (.int .i64 0), .v (.int .i64 0), .v (.slice none 0 0)] 43), (b, true, .arr 0 N row 3 u (0, 0))] ⟨⟨h2.all.1.1, h2.all.1.2.1, by simp; omega⟩, ⟨h2.all.2.1.1, h2.all.2.1.2.1, by simp; omega⟩, ⟨h2.all.2.2.1.1, h2.all.2.2.1.2.1, by simp; omega⟩, ⟨hrep, fun _ => .inr (by simp [hPb]), by simp⟩, trivial⟩
  have hnN : n < N := by omega
  by_cases hxh : x.h = e.h
  rotate_left
  · refine seg cfg24m_ok mixed PanicFree.body 1000 [false, true] [] h3 (by first | trivial | exact HpRep.nil | assumption) (by kernel_rfl) fun s_ hs_ => ?_
    simp (maxSteps := 10000000) [SX.vc, SX.stop, SX.contS, SX.contB, SX.contR, SX.contD, SX.sxStep, SX.stepPure, SX.stepNew, SX.stepStore, SX.guardIx, SX.evOp, SX.opd, SX.look, SX.putS, SX.gobs, SX.AllP, SX.leave, SX.lookT, SX.lookN, SX.evBin, SX.evInt, SX.evLoad, SX.shapeUp, SX.evFieldAddr, SX.evIndexAddr, SX.evNew, SX.evStore, SX.evNil, SX.TD.isAgg, SX.thaw, cfg24m, hrw, hxh]
    refine ⟨by (unfold SX.Ob; first | trivial | omega | ((try simp only [SX.inK]); (try simp [SX.den, SX.IsU8, SX.AllP, *]); (try omega))), ?_⟩
    intro a3 w3 hr3 _
    refine post_call 30 [.v (.int .i64 61)] hr3 (by first | exact wanted_none rfl | exact wanted_zero (hr3.env.same rfl rfl rfl rfl) rfl (by simp) | exact wanted_zero (hr3.env.same rfl rfl rfl rfl) rfl (by simp [*])) rfl (callable 30 Try.func30) (fails_ok _ _) ?_
    rintro e21 w21 ⟨rfl, hb21⟩
    refine ⟨_, rfl, ?_⟩
    have h21 := hr3.ret hb21 34 (.ag (ansC (noA 61) (.slice none 0 0))) rfl _ (hr3.all.below hb21) (by simp) rfl
    refine seg cfg24m_ok mixed PanicFree.body 1000 [] [] h21 (by first | trivial | exact HpRep.nil | assumption) (by kernel_rfl) fun s_ hs_ => ?_
    simp (maxSteps := 10000000) [SX.vc, SX.stop, SX.contS, SX.sxStep, SX.stepPure, SX.stepNew, SX.stepStore, SX.guardIx, SX.evOp, SX.opd, SX.look, SX.putS, SX.AllP, SX.leave, SX.lookT, SX.evNew, SX.evStore, SX.spliceL, SX.SV.cells, SX.NotAgg, cfg24m, ansC, noA]
    refine ⟨by (unfold SX.Ob; first | trivial | omega | ((try simp only [SX.inK]); (try simp [SX.den, SX.IsU8, SX.AllP, *]); (try omega))), ?_⟩
    intro a22 w22 hr22 _
    have hA : ackA c e = noA 61 := by rw [ackA, if_pos (hn ▸ hlt), hn, hx, if_pos hxh]
    exact post_retn (endC1 hr22 rfl rfl rfl tok43 rfl ⟨.slice none 0 0, D :: (Bl ++ Bw), by rw [hA]; rfl, by rw [hA]; exact OwS.nil.rd, fun x hx => (by rcases List.mem_cons.1 hx with rfl | hx; exact .inl rfl; rcases List.mem_append.1 hx with hx | hx; exact .inr (.inl (hBl x hx).1); exact .inr (.inr (hBw x hx).1)), hr22.keeps, fun h' => absurd ((congrArg Ans.er hA).symm.trans h') (by decide)⟩).1
  refine seg cfg24m_ok mixed PanicFree.body 1000 [false, false] [] h3.rebase (by first | trivial | exact HpRep.nil | assumption) (by kernel_rfl) fun sB hsB => ?_
  simp (maxSteps := 10000000) [SX.vc, SX.stop, SX.contS, SX.contB, SX.contR, SX.contD, SX.sxStep, SX.stepPure, SX.stepNew, SX.stepStore, SX.stepKeep, SX.guardIx, SX.evOp, SX.opd, SX.opds, SX.look, SX.putS, SX.gobs, SX.AllP, SX.leave, SX.lookT, SX.lookN, SX.evBin, SX.evInt, SX.arith, SX.evLoad, SX.shapeUp, SX.evFieldAddr, SX.evIndexAddr, SX.evFill, SX.evBuild, SX.szs, SX.cellsV, SX.evNew, SX.evStore, SX.spliceL, SX.SV.cells, SX.evNil, SX.TD.isAgg, SX.tails, SX.NotAgg, SX.thaw, SX.frz, SX.fixB, SX.rootIx, SX.Froz, SX.frzStep, SX.fork, Go.Value.cells, cfg24m, hrw, hxh]
  refine ⟨by (unfold SX.Ob; first | trivial | omega | ((try simp only [SX.inK]); (try simp [SX.den, SX.IsU8, SX.AllP, *]); (try omega))), ?_⟩
  intro a4 w4 hr4' ht4
  have hr4 := h3.unbase hr4'
  have q4 := hpLt hr4.all
  simp at q4
  have z4 : w.heap.size ≤ w4.heap.size := hr4.keeps.size
  have hW4 : OwF (fun x => x ∈ Bw) w4 (.slice (some ⟨b, 0, none⟩) c.W.length cap) c.W := .inr ⟨b, N, cap, u, row, hPb, rfl, hc0, hc1, hc2, hr4.all.2.2.2.1.1, hrow⟩
  have hL4 := hL2.keep hr4'.keeps (by simp only [mutB]; simp; refine ⟨hDl, hnl _ (by omega), hnl _ (by omega), fun h => hlw b h hPb⟩)
  obtain ⟨W', hWd⟩ : ∃ W', c.W.take n ++ c.W.drop (n + 1) = W' := ⟨_, rfl⟩
  refine post_callD3 50 [.sl 3 b 0 0 c.W.length cap 3, .v (.int .i64 n), .v (.int .i64 ((n : Int) + 1))] hr4 rfl (wanted_none rfl) rfl (callable 50 Try.func50) (delete_ok w4 _ c.W hW4 n hlt (by omega)) ?_
  rintro e5 w5 ⟨v5, B5, rfl, hO5, hB5, hk5⟩
  rw [hWd] at hO5
  obtain ⟨ad5, cp5, rfl⟩ := hO5.slice
  have hDw5 : (SO.cells [.v (.int .i64 c.T.last), .v (.int .i64 c.T.now), .v vL, .v vS, .sl 3 b 0 0 c.W.length cap 3, .v (.int .i64 c.ttl), .v (.int .i64 c.zn), .v (.int .i64 e.d), .v (.int .i64 e.h), .v (.int .i64 e.z), .v (.int .i64 e.e), .v (.int .i64 e.fr), .v (.int .i64 e.to), .v (.int .i64 e.now), .v (.int .i64 e.key)] 74).rep w5 D := KeepsTo.same hk5 hr4.all.1.1 (fun h => hDB (hB5 _ h).1)
  have hA5 : (SO.cells [.ptr 0 D 0] 72).rep w5 sA := KeepsTo.same hk5 hr4.all.2.1.1 (fun h => hnb _ (by omega) (hB5 _ h).1)
  have hG5 : (SO.cells [.v (.int .i64 0), .v (.int .i64 0), .v (.slice none 0 0)] 43).rep w5 (sA + 1) := KeepsTo.same hk5 hr4.all.2.2.1.1 (fun h => hnb _ (by omega) (hB5 _ h).1)
  have hX5 : (SO.cells [.v (.int .i64 e.z), .v (.int .i64 e.h), .v (.int .i64 e.e), .v (.int .i64 (c.T.now + c.ttl))] 38).rep w5 sB := KeepsTo.same hk5 hr4.all.2.2.2.2.1.1 (fun h => hnb _ (by omega) (hB5 _ h).1)
  have hb5 : b < w5.heap.size := Nat.lt_of_lt_of_le q4.2.2.2.1 hk5.size
  have hr5 := hr4.retK hk5 (fun z hz => .inr (List.mem_cons.2 (.inr (List.mem_append.2 (.inr (hB5 z hz).1))))) 72 (.v (.slice ad5 W'.length cp5)) rfl [(D, true, .cells [.v (.int .i64 c.T.last), .v (.int .i64 c.T.now), .v vL, .v vS, .sl 3 b 0 0 c.W.length cap 3, .v (.int .i64 c.ttl), .v (.int .i64 c.zn), .v (.int .i64 e.d), .v (.int .i64 e.h), .v (.int .i64 e.z), .v (.int .i64 e.e), .v (.int .i64 e.fr), .v (.int .i64 e.to), .v (.int .i64 e.now), .v (.int .i64 e.key)] 74), (sA, true, .cells [.ptr 0 D 0] 72), (sA + 1, true, .cells [.v (.int .i64 0), .v (.int .i64 0), .v (.slice none 0 0)] 43), (b, false, .any), (sB, true, .cells [.v (.int .i64 e.z), .v (.int .i64 e.h), .v (.int .i64 e.e), .v (.int .i64 (c.T.now + c.ttl))] 38)] ⟨⟨hDw5, hr4.all.1.2.1, by simp; omega⟩, ⟨hA5, hr4.all.2.1.2.1, by simp; omega⟩, ⟨hG5, hr4.all.2.2.1.2.1, by simp; omega⟩, ⟨hb5, by simp, by simp; omega⟩, ⟨hX5, hr4.all.2.2.2.2.1.2⟩, trivial⟩ (by simp) rfl
  have ht5 : HpRep [(D, true, .any), (sA, false, .cells [.ptr 0 D 0] 72), (sA + 1, true, .any), (b, true, .any), (sB, true, .any)] w5 := zfz5 (SO.rep_lt hDw5) hA5 (SO.rep_lt hG5) hb5 (SO.rep_lt hX5)
  refine ⟨_, rfl, ht5, ?_⟩
  have hL5 := hL4.keep hk5 (fun x hx h => hlw x h (hB5 x hx).1)
  refine seg cfg24m_ok mixed PanicFree.body 1000 [] [] hr5.rebase (by first | trivial | exact HpRep.nil | assumption) (by kernel_rfl) fun sC hsC => ?_
  simp (maxSteps := 10000000) [SX.vc, SX.stop, SX.contS, SX.contR, SX.contD, SX.sxStep, SX.stepPure, SX.stepNew, SX.stepStore, SX.stepKeep, SX.guardIx, SX.evOp, SX.opd, SX.look, SX.putS, SX.gobs, SX.AllP, SX.leave, SX.lookT, SX.lookN, SX.evLoad, SX.shapeUp, SX.evFieldAddr, SX.evNew, SX.evStore, SX.spliceL, SX.SV.cells, SX.evNil, SX.TD.isAgg, SX.tails, SX.NotAgg, SX.thaw, SX.frz, SX.fixB, SX.rootIx, SX.Froz, SX.frzStep, SX.fork, cfg24m]
  refine ⟨by (unfold SX.Ob; first | trivial | omega | ((try simp only [SX.inK]); (try simp [SX.den, SX.IsU8, SX.AllP, *]); (try omega))), ?_⟩
  intro a6 w6 hr6' ht6
  have hr6 := hr5.unbase hr6'
  have q6 := hpLt hr6.all
  simp at q6
  have z5 : w4.heap.size ≤ w5.heap.size := hk5.size
  have z6 : w5.heap.size ≤ w6.heap.size := hr6'.keeps.size
  have hL6 := hL5.keep hr6'.keeps (by simp only [mutB]; simp; refine ⟨hDl, hnl _ (by omega), hnl _ (by omega), hnl _ (by omega)⟩)
  have hO6 := hO5.keep hr6'.keeps (by simp only [mutB]; simp; refine ⟨hDB, hnb _ (by omega), hnb _ (by omega), hnb _ (by omega)⟩)
  refine post_callD 51 [.v vL, .v (.int .i64 e.z), .fn (.func 52) [] []] hr6 rfl (by first | exact wanted_none rfl | exact wanted_zero (hr6.env.same rfl rfl rfl rfl) rfl (by simp) | exact wanted_zero (hr6.env.same rfl rfl rfl rfl) rfl (by simp [*])) rfl (callable 51 Try.func51) (bin2_ok w6 vL c.T.L e.z hL6.rd (by omega)) ?_
  rintro e7 w7 ⟨i7, rfl, hp7, hb7⟩
  have ht7 := HpRep_below ht6 hb7
  refine ⟨_, rfl, ht7, ?_⟩
  have hr7 := hr6.ret hb7 85 (.tu [.v (.int .i64 i7), .v (.bool (isAt c.T.L e.z i7))]) rfl _ (hr6.all.below hb7) (by simp) rfl
  refine seg cfg24m_ok mixed PanicFree.body 1000 [] [] hr7.rebase (by first | trivial | exact HpRep.nil | assumption) (by kernel_rfl) fun sD hsD => ?_
  simp (maxSteps := 10000000) [SX.vc, SX.stop, SX.contS, SX.contR, SX.contD, SX.sxStep, SX.stepPure, SX.stepNew, SX.stepStore, SX.stepKeep, SX.guardIx, SX.evOp, SX.opd, SX.look, SX.putS, SX.gobs, SX.AllP, SX.leave, SX.lookT, SX.lookN, SX.evLoad, SX.shapeUp, SX.evFieldAddr, SX.evNew, SX.evStore, SX.spliceL, SX.SV.cells, SX.evNil, SX.TD.isAgg, SX.tails, SX.NotAgg, SX.thaw, SX.frz, SX.fixB, SX.rootIx, SX.Froz, SX.frzStep, SX.fork, cfg24m]
  refine ⟨by (unfold SX.Ob; first | trivial | omega | ((try simp only [SX.inK]); (try simp [SX.den, SX.IsU8, SX.AllP, *]); (try omega))), ?_⟩
  intro a8 w8 hr8' ht8
  have hr8 := hr7.unbase hr8'
  have hL7 := hL6.below hb7
  have hO7 := hO6.below hb7
  have z7 : w6.heap.size ≤ w7.heap.size := hb7.size
  have z8 : w7.heap.size ≤ w8.heap.size := hr8'.keeps.size
  have q8 := hpLt hr8.all
  simp at q8
  have hL8 := hL7.keep hr8'.keeps (by simp only [mutB]; simp; refine ⟨hDl, hnl _ (by omega), hnl _ (by omega), hnl _ (by omega)⟩)
  have hO8 := hO7.keep hr8'.keeps (by simp only [mutB]; simp; refine ⟨hDB, hnb _ (by omega), hnb _ (by omega), hnb _ (by omega)⟩)
  refine post_both ?_ ?_
  · refine seg cfg24m_ok mixed PanicFree.body 1000 [] [] hr8.rebase (by first | trivial | exact HpRep.nil | assumption) (by kernel_rfl) fun sY hsY => ?_
    simp (maxSteps := 10000000) [SX.vc, SX.stop, SX.contS, SX.contB, SX.contD, SX.sxStep, SX.stepPure, SX.stepNew, SX.stepStore, SX.guardIx, SX.evOp, SX.opd, SX.opds, SX.look, SX.putS, SX.gobs, SX.AllP, SX.leave, SX.lookT, SX.evBin, SX.evInt, SX.evLoad, SX.shapeUp, SX.evFieldAddr, SX.evFill, SX.evBuild, SX.szs, SX.cellsV, SX.evNew, SX.evStore, SX.spliceL, SX.SV.cells, SX.evNil, SX.TD.isAgg, SX.tails, SX.NotAgg, SX.frz, SX.Froz, SX.frzStep, Go.Value.cells, cfg24m]
    refine ⟨by (unfold SX.Ob; first | trivial | omega | ((try simp only [SX.inK]); (try simp [SX.den, SX.IsU8, SX.AllP, *]); (try omega))), ?_⟩
    intro a9 w9 hr9' ht9
    have hr9 := hr8.unbase hr9'
    have z9 : w8.heap.size ≤ w9.heap.size := hr9'.keeps.size
    have q9 := hpLt hr9.all
    simp at q9
    have hL9 := hL8.keep hr9'.keeps (by simp only [mutB]; simp; refine ⟨hDl, hnl _ (by omega), hnl _ (by omega), hnl _ (by omega)⟩)
    have hO9 := hO8.keep hr9'.keeps (by simp only [mutB]; simp; refine ⟨hDB, hnb _ (by omega), hnb _ (by omega), hnb _ (by omega)⟩)
    have hs9 : (SO.arr 0 1 (fun _ => lseC (ackX c e)) 4 38 (0, 0)).rep w9 sY := rep_arr_sub hr9.all.2.2.2.2.2.1.1 (Nat.le_refl _) (fun j hj => by
      obtain rfl : j = 0 := by omega
      simp [lseC, ackX])
    have hins := insert_ok w9 vL c.T.L hL9 i7 hp7.1 (by omega) sY 38 (ackX c e) hs9 (hnl _ (by omega))
    rw [place_ins (x := ackX c e) hp7 hsrt hno] at hins
    refine post_callD3 54 [.v vL, .v (.int .i64 i7), .sl 5 sY 0 0 1 1 4] hr9 rfl (wanted_none rfl) rfl (callable 54 Try.func54) hins ?_
    rintro e10 w10 ⟨v10, B10, rfl, hO10, hB10, hk10⟩
    obtain ⟨ad10, cp10, rfl⟩ := hO10.slice
    have hDw10 : (SO.cells [.v (.int .i64 c.T.last), .v (.int .i64 c.T.now), .v vL, .v vS, .v (.slice ad5 W'.length cp5), .v (.int .i64 c.ttl), .v (.int .i64 c.zn), .v (.int .i64 e.d), .v (.int .i64 e.h), .v (.int .i64 e.z), .v (.int .i64 e.e), .v (.int .i64 e.fr), .v (.int .i64 e.to), .v (.int .i64 e.now), .v (.int .i64 e.key)] 74).rep w10 D := KeepsTo.same hk10 hr9.all.1.1 (fun h => hDl (hB10 _ h).1)
    have hA10 : (SO.cells [.ptr 0 D 0] 72).rep w10 sA := KeepsTo.same hk10 hr9.all.2.1.1 (fun h => hnl _ (by omega) (hB10 _ h).1)
    have hG10 : (SO.cells [.v (.int .i64 0), .v (.int .i64 0), .v (.slice none 0 0)] 43).rep w10 (sA + 1) := KeepsTo.same hk10 hr9.all.2.2.1.1 (fun h => hnl _ (by omega) (hB10 _ h).1)
    have hX10 : (SO.cells [.v (.int .i64 e.z), .v (.int .i64 e.h), .v (.int .i64 e.e), .v (.int .i64 (c.T.now + c.ttl))] 38).rep w10 sB := KeepsTo.same hk10 hr9.all.2.2.2.2.1.1 (fun h => hnl _ (by omega) (hB10 _ h).1)
    have hb10 : b < w10.heap.size := Nat.lt_of_lt_of_le q9.2.2.2.1 hk10.size
    have hr10 := hr9.retK hk10 (fun z hz => .inr (List.mem_cons.2 (.inr (List.mem_append.2 (.inl (hB10 z hz).1))))) 98 (.v (.slice ad10 (insK (ackX c e) c.T.L).length cp10)) rfl [(D, true, .cells [.v (.int .i64 c.T.last), .v (.int .i64 c.T.now), .v vL, .v vS, .v (.slice ad5 W'.length cp5), .v (.int .i64 c.ttl), .v (.int .i64 c.zn), .v (.int .i64 e.d), .v (.int .i64 e.h), .v (.int .i64 e.z), .v (.int .i64 e.e), .v (.int .i64 e.fr), .v (.int .i64 e.to), .v (.int .i64 e.now), .v (.int .i64 e.key)] 74), (sA, true, .cells [.ptr 0 D 0] 72), (sA + 1, true, .cells [.v (.int .i64 0), .v (.int .i64 0), .v (.slice none 0 0)] 43), (b, false, .any), (sB, true, .cells [.v (.int .i64 e.z), .v (.int .i64 e.h), .v (.int .i64 e.e), .v (.int .i64 (c.T.now + c.ttl))] 38)] ⟨⟨hDw10, hr9.all.1.2.1, by simp; omega⟩, ⟨hA10, hr9.all.2.1.2.1, by simp; omega⟩, ⟨hG10, hr9.all.2.2.1.2.1, by simp; omega⟩, ⟨hb10, by simp, by simp; omega⟩, ⟨hX10, hr9.all.2.2.2.2.1.2.1, by simp⟩, trivial⟩ (by simp) rfl
    have ht10 : HpRep [(D, true, .any), (sA, false, .cells [.ptr 0 D 0] 72), (sA + 1, true, .any), (b, true, .any), (sB, false, .cells [.v (.int .i64 e.z), .v (.int .i64 e.h), .v (.int .i64 e.e), .v (.int .i64 (c.T.now + c.ttl))] 38)] w10 := zfz5 (SO.rep_lt hDw10) hA10 (SO.rep_lt hG10) hb10 hX10
    refine ⟨_, rfl, ht10, ?_⟩
    have z10 : w9.heap.size ≤ w10.heap.size := hk10.size
    have hW10 := hO9.keep hk10 (fun x hx h => hlw x (hB10 x hx).1 h)
    refine seg cfg24m_ok mixed PanicFree.body 1000 [] [] hr10.rebase (by first | trivial | exact HpRep.nil | assumption) (by kernel_rfl) fun sZ hsZ => ?_
    simp (maxSteps := 10000000) [SX.vc, SX.stop, SX.contS, SX.contB, SX.contD, SX.sxStep, SX.stepPure, SX.stepNew, SX.stepStore, SX.guardIx, SX.evOp, SX.opd, SX.opds, SX.look, SX.putS, SX.gobs, SX.AllP, SX.leave, SX.lookT, SX.evBin, SX.evInt, SX.evLoad, SX.shapeUp, SX.evFieldAddr, SX.evFill, SX.evBuild, SX.szs, SX.cellsV, SX.evNew, SX.evStore, SX.spliceL, SX.SV.cells, SX.evNil, SX.TD.isAgg, SX.tails, SX.NotAgg, SX.frz, SX.Froz, SX.frzStep, Go.Value.cells, cfg24m]
    refine ⟨by (unfold SX.Ob; first | trivial | omega | ((try simp only [SX.inK]); (try simp [SX.den, SX.IsU8, SX.AllP, *]); (try omega))), ?_⟩
    intro a11 w11 hr11' ht11
    have hr11 := hr10.unbase hr11'
    have hL11 := hO10.keep hr11'.keeps (by simp only [mutB]; simp; refine ⟨⟨hDl, by omega⟩, ⟨hnl _ (by omega), by omega⟩, ⟨hnl _ (by omega), by omega⟩, ⟨hnl _ (by omega), by omega⟩⟩)
    have hW11 := hW10.keep hr11'.keeps (by simp only [mutB]; simp; refine ⟨hDB, hnb _ (by omega), hnb _ (by omega), hnb _ (by omega)⟩)
    have hA : ackA c e = okA e.e := by rw [ackA, if_pos (hn ▸ hlt), hn, hx, if_neg (not_not_intro hxh)]
    have hWc : (ackC c e).W = W' := by rw [← hWd, ← hn]; rfl
    exact post_retn (endC1 hr11 rfl rfl rfl tok43 rfl ⟨.slice none 0 0, D :: (Bl ++ Bw), by rw [hA]; rfl, by rw [hA]; exact OwS.nil.rd, fun x hx => (by rcases List.mem_cons.1 hx with rfl | hx; exact .inl rfl; rcases List.mem_append.1 hx with hx | hx; exact .inr (.inl (hBl x hx).1); exact .inr (.inr (hBw x hx).1)), hr11.keeps, fun _ => ⟨.slice ad10 (insK (ackX c e) c.T.L).length cp10, vS, .slice ad5 W'.length cp5, hr11.all.1.1, hL11.rd.mono fun x _ hx => hx.elim (fun hx => .inl (hBl x hx).1) fun hx => .inr (show w.heap.size ≤ x by omega), (h.S.keep hr11.keeps sS).mono fun x _ hx => .inl hx, by rw [hWc]; exact hW11.rd.mono fun x _ hx => .inl (hBw x hx).1⟩⟩).1
  · refine seg cfg24m_ok mixed PanicFree.body 1000 [] [] hr8.rebase (by first | trivial | exact HpRep.nil | assumption) (by kernel_rfl) fun sY hsY => ?_
    simp (maxSteps := 10000000) [SX.vc, SX.stop, SX.contS, SX.contB, SX.contD, SX.sxStep, SX.stepPure, SX.stepNew, SX.stepStore, SX.guardIx, SX.evOp, SX.opd, SX.opds, SX.look, SX.putS, SX.gobs, SX.AllP, SX.leave, SX.lookT, SX.evBin, SX.evInt, SX.evLoad, SX.shapeUp, SX.evFieldAddr, SX.evFill, SX.evBuild, SX.szs, SX.cellsV, SX.evNew, SX.evStore, SX.spliceL, SX.SV.cells, SX.evNil, SX.TD.isAgg, SX.tails, SX.NotAgg, SX.frz, SX.Froz, SX.frzStep, Go.Value.cells, cfg24m]
    refine ⟨by (unfold SX.Ob; first | trivial | omega | ((try simp only [SX.inK]); (try simp [SX.den, SX.IsU8, SX.AllP, *]); (try omega))), ?_⟩
    intro a9 w9 hr9' ht9
    have hr9 := hr8.unbase hr9'
    have z9 : w8.heap.size ≤ w9.heap.size := hr9'.keeps.size
    have q9 := hpLt hr9.all
    simp at q9
    have hL9 := hL8.keep hr9'.keeps (by simp only [mutB]; simp; refine ⟨hDl, hnl _ (by omega), hnl _ (by omega), hnl _ (by omega)⟩)
    have hO9 := hO8.keep hr9'.keeps (by simp only [mutB]; simp; refine ⟨hDB, hnb _ (by omega), hnb _ (by omega), hnb _ (by omega)⟩)
    have hs9 : (SO.arr 0 1 (fun _ => lseC (ackX c e)) 4 38 (0, 0)).rep w9 sY := rep_arr_sub hr9.all.2.2.2.2.2.1.1 (Nat.le_refl _) (fun j hj => by
      obtain rfl : j = 0 := by omega
      simp [lseC, ackX])
    have hins := insert_ok w9 vL c.T.L hL9 i7 hp7.1 (by omega) sY 38 (ackX c e) hs9 (hnl _ (by omega))
    rw [place_ins (x := ackX c e) hp7 hsrt hno] at hins
    refine post_callD3 54 [.v vL, .v (.int .i64 i7), .sl 5 sY 0 0 1 1 4] hr9 rfl (wanted_none rfl) rfl (callable 54 Try.func54) hins ?_
    rintro e10 w10 ⟨v10, B10, rfl, hO10, hB10, hk10⟩
    obtain ⟨ad10, cp10, rfl⟩ := hO10.slice
    have hDw10 : (SO.cells [.v (.int .i64 c.T.last), .v (.int .i64 c.T.now), .v vL, .v vS, .v (.slice ad5 W'.length cp5), .v (.int .i64 c.ttl), .v (.int .i64 c.zn), .v (.int .i64 e.d), .v (.int .i64 e.h), .v (.int .i64 e.z), .v (.int .i64 e.e), .v (.int .i64 e.fr), .v (.int .i64 e.to), .v (.int .i64 e.now), .v (.int .i64 e.key)] 74).rep w10 D := KeepsTo.same hk10 hr9.all.1.1 (fun h => hDl (hB10 _ h).1)
    have hA10 : (SO.cells [.ptr 0 D 0] 72).rep w10 sA := KeepsTo.same hk10 hr9.all.2.1.1 (fun h => hnl _ (by omega) (hB10 _ h).1)
    have hG10 : (SO.cells [.v (.int .i64 0), .v (.int .i64 0), .v (.slice none 0 0)] 43).rep w10 (sA + 1) := KeepsTo.same hk10 hr9.all.2.2.1.1 (fun h => hnl _ (by omega) (hB10 _ h).1)
    have hX10 : (SO.cells [.v (.int .i64 e.z), .v (.int .i64 e.h), .v (.int .i64 e.e), .v (.int .i64 (c.T.now + c.ttl))] 38).rep w10 sB := KeepsTo.same hk10 hr9.all.2.2.2.2.1.1 (fun h => hnl _ (by omega) (hB10 _ h).1)
    have hb10 : b < w10.heap.size := Nat.lt_of_lt_of_le q9.2.2.2.1 hk10.size
    have hr10 := hr9.retK hk10 (fun z hz => .inr (List.mem_cons.2 (.inr (List.mem_append.2 (.inl (hB10 z hz).1))))) 98 (.v (.slice ad10 (insK (ackX c e) c.T.L).length cp10)) rfl [(D, true, .cells [.v (.int .i64 c.T.last), .v (.int .i64 c.T.now), .v vL, .v vS, .v (.slice ad5 W'.length cp5), .v (.int .i64 c.ttl), .v (.int .i64 c.zn), .v (.int .i64 e.d), .v (.int .i64 e.h), .v (.int .i64 e.z), .v (.int .i64 e.e), .v (.int .i64 e.fr), .v (.int .i64 e.to), .v (.int .i64 e.now), .v (.int .i64 e.key)] 74), (sA, true, .cells [.ptr 0 D 0] 72), (sA + 1, true, .cells [.v (.int .i64 0), .v (.int .i64 0), .v (.slice none 0 0)] 43), (b, false, .any), (sB, true, .cells [.v (.int .i64 e.z), .v (.int .i64 e.h), .v (.int .i64 e.e), .v (.int .i64 (c.T.now + c.ttl))] 38)] ⟨⟨hDw10, hr9.all.1.2.1, by simp; omega⟩, ⟨hA10, hr9.all.2.1.2.1, by simp; omega⟩, ⟨hG10, hr9.all.2.2.1.2.1, by simp; omega⟩, ⟨hb10, by simp, by simp; omega⟩, ⟨hX10, hr9.all.2.2.2.2.1.2.1, by simp⟩, trivial⟩ (by simp) rfl
    have ht10 : HpRep [(D, true, .any), (sA, false, .cells [.ptr 0 D 0] 72), (sA + 1, true, .any), (b, true, .any), (sB, false, .cells [.v (.int .i64 e.z), .v (.int .i64 e.h), .v (.int .i64 e.e), .v (.int .i64 (c.T.now + c.ttl))] 38)] w10 := zfz5 (SO.rep_lt hDw10) hA10 (SO.rep_lt hG10) hb10 hX10
    refine ⟨_, rfl, ht10, ?_⟩
    have z10 : w9.heap.size ≤ w10.heap.size := hk10.size
    have hW10 := hO9.keep hk10 (fun x hx h => hlw x (hB10 x hx).1 h)
    refine seg cfg24m_ok mixed PanicFree.body 1000 [] [] hr10.rebase (by first | trivial | exact HpRep.nil | assumption) (by kernel_rfl) fun sZ hsZ => ?_
    simp (maxSteps := 10000000) [SX.vc, SX.stop, SX.contS, SX.contB, SX.contD, SX.sxStep, SX.stepPure, SX.stepNew, SX.stepStore, SX.guardIx, SX.evOp, SX.opd, SX.opds, SX.look, SX.putS, SX.gobs, SX.AllP, SX.leave, SX.lookT, SX.evBin, SX.evInt, SX.evLoad, SX.shapeUp, SX.evFieldAddr, SX.evFill, SX.evBuild, SX.szs, SX.cellsV, SX.evNew, SX.evStore, SX.spliceL, SX.SV.cells, SX.evNil, SX.TD.isAgg, SX.tails, SX.NotAgg, SX.frz, SX.Froz, SX.frzStep, Go.Value.cells, cfg24m]
    refine ⟨by (unfold SX.Ob; first | trivial | omega | ((try simp only [SX.inK]); (try simp [SX.den, SX.IsU8, SX.AllP, *]); (try omega))), ?_⟩
    intro a11 w11 hr11' ht11
    have hr11 := hr10.unbase hr11'
    have hL11 := hO10.keep hr11'.keeps (by simp only [mutB]; simp; refine ⟨⟨hDl, by omega⟩, ⟨hnl _ (by omega), by omega⟩, ⟨hnl _ (by omega), by omega⟩, ⟨hnl _ (by omega), by omega⟩⟩)
    have hW11 := hW10.keep hr11'.keeps (by simp only [mutB]; simp; refine ⟨hDB, hnb _ (by omega), hnb _ (by omega), hnb _ (by omega)⟩)
    have hA : ackA c e = okA e.e := by rw [ackA, if_pos (hn ▸ hlt), hn, hx, if_neg (not_not_intro hxh)]
    have hWc : (ackC c e).W = W' := by rw [← hWd, ← hn]; rfl
    exact post_retn (endC1 hr11 rfl rfl rfl tok43 rfl ⟨.slice none 0 0, D :: (Bl ++ Bw), by rw [hA]; rfl, by rw [hA]; exact OwS.nil.rd, fun x hx => (by rcases List.mem_cons.1 hx with rfl | hx; exact .inl rfl; rcases List.mem_append.1 hx with hx | hx; exact .inr (.inl (hBl x hx).1); exact .inr (.inr (hBw x hx).1)), hr11.keeps, fun _ => ⟨.slice ad10 (insK (ackX c e) c.T.L).length cp10, vS, .slice ad5 W'.length cp5, hr11.all.1.1, hL11.rd.mono fun x _ hx => hx.elim (fun hx => .inl (hBl x hx).1) fun hx => .inr (show w.heap.size ≤ x by omega), (h.S.keep hr11.keeps sS).mono fun x _ hx => .inl hx, by rw [hWc]; exact hW11.rd.mono fun x _ hx => .inl (hBw x hx).1⟩⟩).1
end Go.Proofs.C8
