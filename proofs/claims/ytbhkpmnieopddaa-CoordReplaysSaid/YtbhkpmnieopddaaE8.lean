/- E8: texts of this proof, joined. -/
import Derived.Test.YtbhkpmnieopddaaE2
import Derived.Test.YtbhkpmnieopddaaE6
set_option linter.unusedVariables false
set_option linter.unusedSimpArgs false
set_option linter.unusedSectionVars false
namespace Go.Proofs.S7
open Go Go.Proofs Go.SX Go.RowKit
def ParR (w : World) (L : List Spn) (f t : Int) (e : Ending) (w' : World) : Prop :=
  ((¬ Within L f t ∧ e = .returned (den (.tu [.v (.slice none 0 0), .v (.int .i64 1)]))) ∨
   (Within L f t ∧ ∃ v' M p q, e = .returned (den (.tu [.v v', .v (.int .i64 0)])) ∧ OwP (fun x => w.heap.size ≤ x) w' v' M ∧ p ≤ q ∧ q < L.length ∧ InS f (nth spn0 L p) ∧ InS (t - 1) (nth spn0 L q) ∧ M.length = q + 1 - p ∧ ∀ j, j < M.length → (nth spn0 M j).ow = (nth spn0 L (p + j)).ow)) ∧ Below w.heap.size w w'
theorem nth_setS {L : List Spn} {k j : Nat} {x : Spn} (hk : k < L.length) : nth spn0 (L.set k x) j = if j = k then x else nth spn0 L j := by
  unfold nth
  simp only [List.getD_eq_getElem?_getD, List.getElem?_set]
  by_cases h : k = j
  · subst h; simp [hk]
  · rw [if_neg h, if_neg (fun e => h e.symm)]
theorem setRowS {row : Nat → List SV} {L : List Spn} {k : Nat} {x : Spn} (hk : k < L.length) (h : ∀ j, j < L.length → row j = spnC (nth spn0 L j)) : ∀ j, j < L.length → setRow row k (spnC x) j = spnC (nth spn0 (L.set k x) j) := by
  intro j hj
  rw [nth_setS hk]
  unfold setRow
  split
  · rfl
  · exact h j hj
set_option maxRecDepth 100000 in
set_option maxHeartbeats 16000000 in
theorem Parts_ok {P : Nat → Prop} (w : World) (v : Value) (L : List Spn) (f t : Int) (hL : RdP P w v L) (hn : L.length ≤ 100000) : Calls Try.prog 55 (denL [.v v, .v (.int .i64 f), .v (.int .i64 t)]).toArray w (ParR w L f t) := by
  obtain ⟨ad, cp, rfl⟩ := hL.slice
  refine enter (F := frame0 w) Try.func55 rfl [.v (.slice ad L.length cp), .v (.int .i64 f), .v (.int .i64 t)] [] (by simp [Try.f55]) trivial (keeps0 w) fun a hr => ?_
  refine seg cfg55_ok mixed PanicFree.body 1000 [] [] hr (by first | trivial | exact HpRep.nil | assumption) (by kernel_rfl) fun s_ hs_ => ?_
  simp (maxSteps := 10000000) [SX.vc, SX.stop, SX.contS, SX.sxStep, SX.stepPure, SX.stepNew, SX.stepStore, SX.guardIx, SX.evOp, SX.opd, SX.look, SX.putS, SX.gobs, SX.AllP, SX.leave, SX.evNew, SX.evStore, SX.env0, cfg55, Try.f55]
  refine ⟨by (unfold SX.Ob; first | trivial | omega | ((try simp only [SX.inK]); (try simp [SX.den, SX.IsU8, SX.AllP, *]); (try omega))), ?_⟩
  intro a1 w1 hr1 _
  refine post_call 70 [.v (.slice ad L.length cp), .v (.int .i64 f), .v (.int .i64 t)] hr1 (by first | exact wanted_none rfl | exact wanted_zero (hr1.env.same rfl rfl rfl rfl) rfl (by simp) | exact wanted_zero (hr1.env.same rfl rfl rfl rfl) rfl (by simp [*])) rfl (callable 70 Try.func70) (within_ok w1 _ L f t (hL.below hr1.keeps.toBelow) (by omega)) ?_
  rintro e2 w2 ⟨rfl, hb2⟩
  refine ⟨_, rfl, ?_⟩
  have h2 := hr1.ret hb2 12 (.v (.bool (decide (Within L f t)))) rfl _ (hr1.all.below hb2) (by simp) rfl
  by_cases hW : Within L f t
  rotate_left
  · refine seg cfg55_ok mixed PanicFree.body 1000 [true] [] h2 (by first | trivial | exact HpRep.nil | assumption) (by kernel_rfl) fun s_ hs_ => ?_
    simp (maxSteps := 10000000) [SX.vc, SX.stop, SX.contS, SX.contB, SX.sxStep, SX.stepPure, SX.guardIx, SX.evOp, SX.opd, SX.look, SX.putS, SX.gobs, SX.AllP, SX.leave, SX.evUn, cfg55, hW]
    refine ⟨by (unfold SX.Ob; first | trivial | omega | ((try simp only [SX.inK]); (try simp [SX.den, SX.IsU8, SX.AllP, *]); (try omega))), ?_⟩
    intro a3 w3 hr3 _
    exact post_retn (end2 hr3 rfl rfl rfl ⟨.inl ⟨hW, rfl⟩, hr3.keeps.toBelow⟩).1
  have hC := hW.1
  have e1 := hW.2.1
  have e2 := hW.2.2.1
  have e3 := hW.2.2.2
  have e4 : endS 0 L ≤ 1099511627776 := hC.2.2
  refine seg cfg55_ok mixed PanicFree.body 1000 [false] [] h2 (by first | trivial | exact HpRep.nil | assumption) (by kernel_rfl) fun s_ hs_ => ?_
  simp (maxSteps := 10000000) [SX.vc, SX.stop, SX.contS, SX.contB, SX.sxStep, SX.stepPure, SX.stepNew, SX.stepStore, SX.guardIx, SX.evOp, SX.opd, SX.look, SX.putS, SX.gobs, SX.AllP, SX.leave, SX.evNew, SX.evStore, SX.evUn, cfg55, hW]
  refine ⟨by (unfold SX.Ob; first | trivial | omega | ((try simp only [SX.inK]); (try simp [SX.den, SX.IsU8, SX.AllP, *]); (try omega))), ?_⟩
  intro a3 w3 hr3 _
  refine post_call 71 [.v (.slice ad L.length cp), .v (.int .i64 f)] hr3 (by first | exact wanted_none rfl | exact wanted_zero (hr3.env.same rfl rfl rfl rfl) rfl (by simp) | exact wanted_zero (hr3.env.same rfl rfl rfl rfl) rfl (by simp [*])) rfl (callable 71 Try.func71) (find_ok w3 _ L f (hL.below hr3.keeps.toBelow) (by omega)) ?_
  rintro e5 w5 ⟨i, rfl, hi, hb5⟩
  refine ⟨_, rfl, ?_⟩
  have h5 := hr3.ret hb5 17 (.v (.int .i64 i)) rfl _ (hr3.all.below hb5) (by simp) rfl
  obtain ⟨j0, hj0, hin0⟩ := inS_some hC.1 e1 (by omega)
  rcases hi with ⟨p, rfl, hp, hin, hno⟩ | ⟨rfl, hno⟩
  rotate_left
  · exact absurd hin0 (hno j0 hj0)
  refine seg cfg55_ok mixed PanicFree.body 1000 [] [] h5 (by first | trivial | exact HpRep.nil | assumption) (by kernel_rfl) fun s_ hs_ => ?_
  simp (maxSteps := 10000000) [SX.vc, SX.stop, SX.contS, SX.sxStep, SX.stepPure, SX.stepNew, SX.stepStore, SX.guardIx, SX.evOp, SX.opd, SX.look, SX.putS, SX.gobs, SX.AllP, SX.evBin, SX.evInt, SX.arith, SX.evNew, SX.evStore, cfg55]
  refine ⟨by (unfold SX.Ob; first | trivial | omega | ((try simp only [SX.inK]); (try simp [SX.den, SX.IsU8, SX.AllP, *]); (try omega))), ?_⟩
  intro a6 w6 hr6 _
  refine post_call 71 [.v (.slice ad L.length cp), .v (.int .i64 (t - 1))] hr6 (by first | exact wanted_none rfl | exact wanted_zero (hr6.env.same rfl rfl rfl rfl) rfl (by simp) | exact wanted_zero (hr6.env.same rfl rfl rfl rfl) rfl (by simp [*])) rfl (callable 71 Try.func71) (find_ok w6 _ L (t - 1) (hL.below hr6.keeps.toBelow) (by omega)) ?_
  rintro e7 w7 ⟨i, rfl, hi, hb7⟩
  refine ⟨_, rfl, ?_⟩
  have h7 := hr6.ret hb7 21 (.v (.int .i64 i)) rfl _ (hr6.all.below hb7) (by simp) rfl
  obtain ⟨j1, hj1, hin1⟩ := inS_some hC.1 (show (0 : Int) ≤ t - 1 by omega) (by omega)
  rcases hi with ⟨q, rfl, hq, hinq, hnoq⟩ | ⟨rfl, hnoq⟩
  rotate_left
  · exact absurd hin1 (hnoq j1 hj1)
  have hpq : p ≤ q := by
    rcases Nat.lt_or_ge q p with h | h
    · have := chkS_lt hC.1 h hp
      have := hinq.2
      have := hin.1
      omega
    · exact h
  obtain ⟨b, o0, cap, u, fz, hP, hv, hrep⟩ := hL.opn hp
  cases hv
  have hcap : L.length ≤ cp := hL.cap rfl
  have hrep2 := SO.rep_same hrep (h7.keeps.toBelow.block _ (SO.rep_lt hrep))
  have h8 := (h7.top 14 (.sl 0 b o0 0 L.length cp 4) rfl (by simp [den])).see _ (HpAll.one hrep2)
  have hcp : ¬ cp = p := by omega
  refine seg cfg55_ok mixed PanicFree.body 1000 [] [] h8 (by first | trivial | exact HpRep.nil | assumption) (by kernel_rfl) fun s_ hs_ => ?_
  simp (maxSteps := 10000000) [SX.vc, SX.stop, SX.contS, SX.sxStep, SX.stepPure, SX.stepNew, SX.stepStore, SX.guardIx, SX.evOp, SX.opd, SX.optOpd, SX.look, SX.putS, SX.gobs, SX.AllP, SX.lookT, SX.evBin, SX.evInt, SX.arith, SX.evNew, SX.evStore, SX.evSlice, SX.bnd, cfg55, hcp]
  refine ⟨by (unfold SX.Ob; first | trivial | omega | ((try simp only [SX.inK]); (try simp [SX.den, SX.IsU8, SX.AllP, *]); (try omega))), ?_⟩
  intro a9 w9 hr9 _
  obtain ⟨n, hn1⟩ : ∃ n, q + 1 - p = n + 1 := ⟨q - p, by omega⟩
  obtain ⟨N, hN⟩ : ∃ N, (L.drop p).take (q + 1 - p) = N := ⟨_, rfl⟩
  have hNl : N.length = n + 1 := by rw [← hN]; simp; omega
  have hNn : ∀ j, j < n + 1 → nth spn0 N j = nth spn0 L (p + j) := fun j hj => by rw [← hN]; exact nth_part (by omega)
  have hpart : RdP (fun _ => True) w9 (.slice (some ⟨b, o0 + p * 4, none⟩) (q + 1 - p) (cp - p)) N := hN ▸ RdS.part trivial rfl hr9.all.1.1 (by omega) (by omega)
  refine post_call 41 [.sl 0 b o0 p (q + 1 - p) (cp - p) 4] hr9 (by first | exact wanted_none rfl | exact wanted_zero (hr9.env.same rfl rfl rfl rfl) rfl (by simp) | exact wanted_zero (hr9.env.same rfl rfl rfl rfl) rfl (by simp [*])) rfl (callable 41 Try.func41) (clone_ok w9 _ N hpart (by omega) (by omega)) ?_
  rintro e10 w10 ⟨v10, rfl, hO10, hb10⟩
  refine ⟨_, rfl, ?_⟩
  have h10 := hr9.ret hb10 24 (.v v10) rfl _ (hr9.all.below hb10) (by simp) rfl
  have z9 : w.heap.size ≤ w9.heap.size := hr9.keeps.size
  obtain ⟨b2, N2, cap2, u2, row, hP2, hv, hc0, hc1, hc2, hrep2, hrow⟩ := hO10.opn (show 0 < N.length by omega)
  cases hv
  have h11 := (h10.top 24 (.sl 0 b2 0 0 (n + 1) cap2 4) rfl (by simp [den, hNl])).see [(b2, true, .arr 0 N2 row 4 u2 (0, 0))] ⟨⟨hrep2, fun _ => .inl (show w.heap.size ≤ b2 by omega), by simp⟩, trivial⟩
  obtain ⟨x0, hx0⟩ : ∃ x, nth spn0 N 0 = x := ⟨_, rfl⟩
  have hr0 : row 0 = [.v (.int .i64 x0.fr), .v (.int .i64 x0.to), .v (.int .i64 x0.ow), .v (.int .i64 x0.ep)] := by rw [hrow 0 (by omega), hx0]; rfl
  have hNN : n < N2 := by omega
  refine seg cfg55_ok mixed PanicFree.body 1000 [] [] h11 (by first | trivial | exact HpRep.nil | assumption) (by kernel_rfl) fun s_ hs_ => ?_
  simp (maxSteps := 10000000) [SX.vc, SX.stop, SX.contS, SX.sxStep, SX.stepPure, SX.stepNew, SX.stepStore, SX.guardIx, SX.evOp, SX.opd, SX.opds, SX.look, SX.putS, SX.gobs, SX.AllP, SX.leave, SX.lookT, SX.evBuiltin, SX.evBin, SX.evInt, SX.arith, SX.evFieldAddr, SX.evIndexAddr, SX.evNew, SX.evStore, SX.spliceL, SX.SV.cells, SX.NotAgg, cfg55, hr0]
  refine ⟨by (unfold SX.Ob; first | trivial | omega | ((try simp only [SX.inK]); (try simp [SX.den, SX.IsU8, SX.AllP, *]); (try omega))), ?_⟩
  intro a12 w12 hr12 _
  have hrw0 := setRowS (x := { x0 with fr := f }) (show 0 < N.length by omega) (fun j hj => hrow j hj)
  obtain ⟨M0, hM0⟩ : ∃ M0, N.set 0 { x0 with fr := f } = M0 := ⟨_, rfl⟩
  rw [hM0] at hrw0
  have hM0l : M0.length = N.length := by rw [← hM0]; simp
  obtain ⟨y, hy⟩ : ∃ y, nth spn0 M0 n = y := ⟨_, rfl⟩
  have hrw1 := setRowS (x := { y with to := t }) (show n < M0.length by omega) (fun j hj => hrw0 j (by omega))
  have hyn := hrw0 n (by omega)
  rw [hy] at hyn
  have hrep12 := hr12.all.1.1
  have hrow12 : List.take 1 (setRow row 0 (spnC { x0 with fr := f }) n) ++ SV.v (.int .i64 t) :: List.drop 2 (setRow row 0 (spnC { x0 with fr := f }) n) = spnC { y with to := t } := by rw [hyn]; rfl
  simp only [spnC] at hrow12
  rw [hrow12] at hrep12
  refine post_retn (end2 hr12 rfl rfl rfl ⟨.inr ⟨hW, .slice (some ⟨b2, 0, none⟩) (n + 1) cap2, M0.set n { y with to := t }, p, q, by simp [den, denL], .inr ⟨b2, N2, cap2, u2, _, by omega, by simp [hM0l, hNl], hc0, by simp [hM0l]; omega, hc2, hrep12, fun j hj => hrw1 j (by simpa using hj)⟩, hpq, hq, hin, hinq, by simp [hM0l, hNl]; omega, fun j hj => ?_⟩, hr12.keeps.toBelow⟩).1
  have hj' : j < n + 1 := by simpa [hM0l, hNl] using hj
  have e0 : (nth spn0 M0 j).ow = (nth spn0 N j).ow := by
    rw [← hM0, nth_setS (by omega)]
    split
    · rename_i h; subst h; rw [hx0]
    · rfl
  rw [nth_setS (by omega), ← hNn j hj', ← e0]
  split
  · rename_i h; subst h; rw [hy]
  · rfl
end Go.Proofs.S7
namespace Go.Proofs.C8
open Go Go.Proofs Go.SX Go.RowKit Go.Proofs.L6
theorem held_parts {L M : List Spn} {e : Evt} {p q : Nat} (hW : S7.Within L e.fr e.to) (hpq : p ≤ q) (hq : q < L.length) (hin : S7.InS e.fr (nth S7.spn0 L p)) (hinq : S7.InS (e.to - 1) (nth S7.spn0 L q)) (hMl : M.length = q + 1 - p) (hMo : ∀ j, j < M.length → (nth S7.spn0 M j).ow = (nth S7.spn0 L (p + j)).ow) :
    M.any (spanQ e) = heldS L e := by
  have hC := hW.1.1
  rw [Bool.eq_iff_iff]
  simp only [heldS, List.any_eq_true, Bool.and_eq_true, decide_eq_true_eq]
  constructor
  · rintro ⟨s, hs, hb⟩
    obtain ⟨j, hj, rfl⟩ := List.mem_iff_getElem.1 hs
    rw [← nth_lt (d := S7.spn0) hj] at hb
    have hl : p + j < L.length := by omega
    refine ⟨nth S7.spn0 L (p + j), nth_mem hl, ?_, ?_, ?_⟩
    · unfold spanQ at hb ⊢
      rw [← hMo j hj]
      exact hb
    · have h1 := (S7.chkS_nth hC hl).1
      rcases Nat.lt_or_ge (p + j) q with h | h
      · have := S7.chkS_lt hC h hq
        have := hinq.1
        omega
      · obtain rfl : p + j = q := by omega
        have := hinq.1
        omega
    · have h1 := (S7.chkS_nth hC hl).1
      rcases Nat.eq_zero_or_pos j with rfl | h
      · exact hin.2
      · have := S7.chkS_lt hC (show p < p + j by omega) hl
        have := hin.2
        omega
  · rintro ⟨s, hs, hb, h1, h2⟩
    obtain ⟨i, hi, rfl⟩ := List.mem_iff_getElem.1 hs
    rw [← nth_lt (d := S7.spn0) hi] at hb h1 h2
    have hpi : p ≤ i := by
      rcases Nat.lt_or_ge i p with h | h
      · have := S7.chkS_lt hC h (by omega)
        have := hin.1
        omega
      · exact h
    have hiq : i ≤ q := by
      rcases Nat.lt_or_ge q i with h | h
      · have := S7.chkS_lt hC h hi
        have := hinq.2
        omega
      · exact h
    have hj : i - p < M.length := by omega
    refine ⟨nth S7.spn0 M (i - p), nth_mem hj, ?_⟩
    unfold spanQ at hb ⊢
    rw [hMo _ hj, show p + (i - p) = i by omega]
    exact hb
set_option maxRecDepth 100000 in
set_option maxHeartbeats 64000000 in
theorem span_ok {QL QS QW : Nat → Prop} (w : World) (D : Nat) (c : Co) (e : Evt) (vL vS vW : Value) (h : Dsk QL QS QW D w c e vL vS vW) (hs : Small c) :
    Calls Try.prog 25 (denL [.ptr 0 D 0]).toArray w (OpR QL QS QW D w e (spanA c e) (spanC c e)) := by
  have n1 := hs.n1
  have n2 := hs.n2
  have n3 := hs.n3
  have l1 := hs.l1
  have l2 := hs.l2
  have hDw : D < w.heap.size := SO.rep_lt h.rep
  have hE : HpAll ⟨w, w.heap.size, [D]⟩ w [(D, true, .cells (deskC c e vL vS vW) 74)] := ⟨⟨h.rep, fun _ => .inr (by simp), by simp⟩, trivial⟩
  refine enter (F := ⟨w, w.heap.size, [D]⟩) Try.func25 rfl [.ptr 0 D 0] _ (by simp [Try.f25]) hE (KeepsTo.refl w _) fun a hr0 => ?_
  refine seg cfg25_ok mixed PanicFree.body 1000 [] [] hr0 (by first | trivial | exact HpRep.nil | assumption) (by kernel_rfl) fun sA hsA => ?_
  simp (maxSteps := 10000000) [SX.vc, SX.stop, SX.contS, SX.sxStep, SX.stepPure, SX.stepNew, SX.stepStore, SX.guardIx, SX.evOp, SX.opd, SX.look, SX.putS, SX.gobs, SX.AllP, SX.leave, SX.lookT, SX.evLoad, SX.shapeUp, SX.cellsV, SX.evNew, SX.evStore, SX.SV.cells, SX.env0, SX.TD.isAgg, Go.Value.cells, cfg25, Try.f25, deskC, coC, evC]
  refine ⟨by (unfold SX.Ob; first | trivial | omega | ((try simp only [SX.inK]); (try simp [SX.den, SX.IsU8, SX.AllP, *]); (try omega))), ?_⟩
  intro a1 w1 hr1 _
  have z1 : w.heap.size ≤ w1.heap.size := hr1.keeps.size
  refine post_call 44 [.ptr 0 D 0] hr1 (by first | exact wanted_none rfl | exact wanted_zero (hr1.env.same rfl rfl rfl rfl) rfl (by simp) | exact wanted_zero (hr1.env.same rfl rfl rfl rfl) rfl (by simp [*])) rfl (callable 44 Try.func44) (dmem_ok w1 D c e vL vS vW hr1.all.1.1 (h.L.rd.keep hr1.keeps (nP1 h.nL)) (by omega)) ?_
  rintro e2 w2 ⟨rfl, hb2⟩
  refine ⟨_, rfl, ?_⟩
  have h2 := hr1.ret hb2 7 (.v (.bool (decide (memP c e.h)))) rfl _ (hr1.all.below hb2) (by simp) rfl
  by_cases hm : memP c e.h
  rotate_left
  · have hd : decide (memP c e.h) = false := decide_eq_false hm
    refine seg cfg25_ok mixed PanicFree.body 1000 [true] [] h2 (by first | trivial | exact HpRep.nil | assumption) (by kernel_rfl) fun s_ hs_ => ?_
    simp (maxSteps := 10000000) [SX.vc, SX.stop, SX.contS, SX.contB, SX.sxStep, SX.stepPure, SX.stepNew, SX.stepStore, SX.guardIx, SX.evOp, SX.opd, SX.look, SX.putS, SX.gobs, SX.AllP, SX.leave, SX.evNew, SX.evStore, SX.evUn, cfg25, hd]
    refine ⟨by (unfold SX.Ob; first | trivial | omega | ((try simp only [SX.inK]); (try simp [SX.den, SX.IsU8, SX.AllP, *]); (try omega))), ?_⟩
    intro a3 w3 hr3 _
    refine post_call 30 [.v (.int .i64 4)] hr3 (by first | exact wanted_none rfl | exact wanted_zero (hr3.env.same rfl rfl rfl rfl) rfl (by simp) | exact wanted_zero (hr3.env.same rfl rfl rfl rfl) rfl (by simp [*])) rfl (callable 30 Try.func30) (fails_ok _ _) ?_
    rintro e21 w21 ⟨rfl, hb21⟩
    refine ⟨_, rfl, ?_⟩
    have h21 := hr3.ret hb21 9 (.ag (ansC (noA 4) (.slice none 0 0))) rfl _ (hr3.all.below hb21) (by simp) rfl
    refine seg cfg25_ok mixed PanicFree.body 1000 [] [] h21 (by first | trivial | exact HpRep.nil | assumption) (by kernel_rfl) fun s_ hs_ => ?_
    simp (maxSteps := 10000000) [SX.vc, SX.stop, SX.contS, SX.sxStep, SX.stepPure, SX.stepNew, SX.stepStore, SX.guardIx, SX.evOp, SX.opd, SX.look, SX.putS, SX.AllP, SX.leave, SX.lookT, SX.evNew, SX.evStore, SX.spliceL, SX.SV.cells, SX.NotAgg, cfg25, ansC, noA]
    refine ⟨by (unfold SX.Ob; first | trivial | omega | ((try simp only [SX.inK]); (try simp [SX.den, SX.IsU8, SX.AllP, *]); (try omega))), ?_⟩
    intro a22 w22 hr22 _
    have hA : spanA c e = noA 4 := by rw [spanA, if_pos hm]
    exact post_retn (endC1 hr22 rfl rfl rfl tok43 rfl ⟨.slice none 0 0, [D], by rw [hA]; rfl, by rw [hA]; exact OwS.nil.rd, fun x hx => .inl (by simpa using hx), hr22.keeps, fun h' => absurd ((congrArg Ans.er hA).symm.trans h') (by first | decide | exact hg)⟩).1
  have hd : decide (memP c e.h) = true := decide_eq_true hm
  refine seg cfg25_ok mixed PanicFree.body 1000 [false] [] h2 (by first | trivial | exact HpRep.nil | assumption) (by kernel_rfl) fun s_ hs_ => ?_
  simp (maxSteps := 10000000) [SX.vc, SX.stop, SX.contS, SX.contB, SX.contR, SX.contD, SX.sxStep, SX.stepPure, SX.stepNew, SX.stepKeep, SX.guardIx, SX.evOp, SX.opd, SX.look, SX.putS, SX.gobs, SX.AllP, SX.leave, SX.lookT, SX.lookN, SX.evLoad, SX.shapeUp, SX.evFieldAddr, SX.evNew, SX.evNil, SX.evUn, SX.TD.isAgg, SX.thaw, cfg25, hd]
  refine ⟨by (unfold SX.Ob; first | trivial | omega | ((try simp only [SX.inK]); (try simp [SX.den, SX.IsU8, SX.AllP, *]); (try omega))), ?_⟩
  intro a3 w3 hr3 ht3
  have hS3 := h.S.keep hr3.keeps (nP1 h.nS)
  refine post_callD 55 [.v vS, .v (.int .i64 e.fr), .v (.int .i64 e.to)] hr3 rfl (wanted_none rfl) rfl (callable 55 Try.func55) (S7.Parts_ok w3 vS c.S e.fr e.to hS3 (by omega)) ?_
  rintro e4 w4 ⟨⟨hWi, rfl⟩ | ⟨hWi, v4, M, p, q, rfl, hO4, hpq, hq, hin, hinq, hMl, hMo⟩, hb4⟩
  · have ht4 := HpRep_below ht3 hb4
    refine ⟨_, rfl, ht4, ?_⟩
    have hr4 := hr3.ret hb4 26 (.tu [.v (.slice none 0 0), .v (.int .i64 1)]) rfl _ (hr3.all.below hb4) (by simp) rfl
    refine seg cfg25_ok mixed PanicFree.body 1000 [true] [] hr4 (by first | trivial | exact HpRep.nil | assumption) (by kernel_rfl) fun s_ hs_ => ?_
    simp (maxSteps := 10000000) [SX.vc, SX.stop, SX.contS, SX.contB, SX.contD, SX.sxStep, SX.stepPure, SX.stepNew, SX.stepStore, SX.guardIx, SX.evOp, SX.opd, SX.opds, SX.look, SX.putS, SX.gobs, SX.AllP, SX.leave, SX.lookT, SX.evBin, SX.evInt, SX.evFieldAddr, SX.evFill, SX.evBuild, SX.szs, SX.cellsV, SX.evNew, SX.evStore, SX.spliceL, SX.SV.cells, SX.evNil, SX.tails, SX.NotAgg, SX.frz, SX.Froz, SX.frzStep, Go.Value.cells, cfg25]
    refine ⟨by (unfold SX.Ob; first | trivial | omega | ((try simp only [SX.inK]); (try simp [SX.den, SX.IsU8, SX.AllP, *]); (try omega))), ?_⟩
    intro a5 w5 hr5 _
    refine post_call 30 [.v (.int .i64 1)] hr5 (by first | exact wanted_none rfl | exact wanted_zero (hr5.env.same rfl rfl rfl rfl) rfl (by simp) | exact wanted_zero (hr5.env.same rfl rfl rfl rfl) rfl (by simp [*])) rfl (callable 30 Try.func30) (fails_ok _ _) ?_
    rintro e21 w21 ⟨rfl, hb21⟩
    refine ⟨_, rfl, ?_⟩
    have h21 := hr5.ret hb21 32 (.ag (ansC (noA 1) (.slice none 0 0))) rfl _ (hr5.all.below hb21) (by simp) rfl
    refine seg cfg25_ok mixed PanicFree.body 1000 [] [] h21 (by first | trivial | exact HpRep.nil | assumption) (by kernel_rfl) fun s_ hs_ => ?_
    simp (maxSteps := 10000000) [SX.vc, SX.stop, SX.contS, SX.sxStep, SX.stepPure, SX.stepNew, SX.stepStore, SX.guardIx, SX.evOp, SX.opd, SX.look, SX.putS, SX.AllP, SX.leave, SX.lookT, SX.evNew, SX.evStore, SX.spliceL, SX.SV.cells, SX.NotAgg, cfg25, ansC, noA]
    refine ⟨by (unfold SX.Ob; first | trivial | omega | ((try simp only [SX.inK]); (try simp [SX.den, SX.IsU8, SX.AllP, *]); (try omega))), ?_⟩
    intro a22 w22 hr22 _
    have hA : spanA c e = noA 1 := by rw [spanA, if_neg (by simpa using hm), if_pos hWi]
    exact post_retn (endC1 hr22 rfl rfl rfl tok43 rfl ⟨.slice none 0 0, [D], by rw [hA]; rfl, by rw [hA]; exact OwS.nil.rd, fun x hx => .inl (by simpa using hx), hr22.keeps, fun h' => absurd ((congrArg Ans.er hA).symm.trans h') (by first | decide | exact hg)⟩).1
  have ht4 := HpRep_below ht3 hb4
  refine ⟨_, rfl, ht4, ?_⟩
  have hr4 := hr3.ret hb4 26 (.tu [.v v4, .v (.int .i64 0)]) rfl _ (hr3.all.below hb4) (by simp) rfl
  obtain ⟨ad4, cp4, rfl⟩ := hO4.slice
  have hheld := held_parts hWi hpq hq hin hinq hMl hMo
  refine seg cfg25_ok mixed PanicFree.body 1000 [false] [] hr4.rebase (by first | trivial | exact HpRep.nil | assumption) (by kernel_rfl) fun s_ hs_ => ?_
  simp (maxSteps := 10000000) [SX.vc, SX.stop, SX.contS, SX.contB, SX.contD, SX.sxStep, SX.stepPure, SX.stepNew, SX.stepStore, SX.guardIx, SX.evOp, SX.opd, SX.opds, SX.look, SX.putS, SX.gobs, SX.AllP, SX.leave, SX.evBin, SX.evInt, SX.evNew, SX.evStore, cfg25]
  refine ⟨by (unfold SX.Ob; first | trivial | omega | ((try simp only [SX.inK]); (try simp [SX.den, SX.IsU8, SX.AllP, *]); (try omega))), ?_⟩
  intro a5 w5 hr5' ht5
  have hr5 := hr4.unbase hr5'
  have z3 : w.heap.size ≤ w3.heap.size := hr3.keeps.size
  have q3 := hpLt hr3.all
  simp at q3
  have hO5 := hO4.keep hr5'.keeps (by simp only [mutB]; simp; omega)
  have q5 := hpLt hr5.all
  simp at q5
  refine post_call 56 [.v (.slice ad4 M.length cp4), .fn (.func 57) [] [.ptr 1 sA 0]] hr5 (by first | exact wanted_none rfl | exact wanted_zero (hr5.env.same rfl rfl rfl rfl) rfl (by simp) | exact wanted_zero (hr5.env.same rfl rfl rfl rfl) rfl (by simp [*])) rfl (callable 56 Try.func56) (conts_ok 57 (callable 57 Try.func57) w5 _ M (spanQ e) sA hO5.rd (by omega) (fun w' x hb => span1_ok w' x sA D c e vL vS vW (by omega) (SO.rep_same hr5.all.2.1.1 (hb.block _ q5.2.1)) (SO.rep_same hr5.all.1.1 (hb.block _ q5.1)))) ?_
  rintro e6 w6 ⟨rfl, hb6⟩
  refine ⟨_, rfl, ?_⟩
  have h6 := hr5.ret hb6 35 (.v (.bool (M.any (spanQ e)))) rfl _ (hr5.all.below hb6) (by simp) rfl
  by_cases hh : heldS c.S e = true
  · have hM : M.any (spanQ e) = true := hheld.trans hh
    refine seg cfg25_ok mixed PanicFree.body 1000 [true] [] h6 (by first | trivial | exact HpRep.nil | assumption) (by kernel_rfl) fun s_ hs_ => ?_
    simp (maxSteps := 10000000) [SX.vc, SX.stop, SX.contS, SX.contB, SX.sxStep, SX.stepPure, SX.stepNew, SX.stepStore, SX.guardIx, SX.evOp, SX.opd, SX.look, SX.AllP, SX.leave, SX.evNew, SX.evStore, cfg25, hM]
    refine ⟨by (unfold SX.Ob; first | trivial | omega | ((try simp only [SX.inK]); (try simp [SX.den, SX.IsU8, SX.AllP, *]); (try omega))), ?_⟩
    intro a7 w7 hr7 _
    refine post_call 30 [.v (.int .i64 60)] hr7 (by first | exact wanted_none rfl | exact wanted_zero (hr7.env.same rfl rfl rfl rfl) rfl (by simp) | exact wanted_zero (hr7.env.same rfl rfl rfl rfl) rfl (by simp [*])) rfl (callable 30 Try.func30) (fails_ok _ _) ?_
    rintro e21 w21 ⟨rfl, hb21⟩
    refine ⟨_, rfl, ?_⟩
    have h21 := hr7.ret hb21 36 (.ag (ansC (noA 60) (.slice none 0 0))) rfl _ (hr7.all.below hb21) (by simp) rfl
    refine seg cfg25_ok mixed PanicFree.body 1000 [] [] h21 (by first | trivial | exact HpRep.nil | assumption) (by kernel_rfl) fun s_ hs_ => ?_
    simp (maxSteps := 10000000) [SX.vc, SX.stop, SX.contS, SX.sxStep, SX.stepPure, SX.stepNew, SX.stepStore, SX.guardIx, SX.evOp, SX.opd, SX.look, SX.putS, SX.AllP, SX.leave, SX.lookT, SX.evNew, SX.evStore, SX.spliceL, SX.SV.cells, SX.NotAgg, cfg25, ansC, noA]
    refine ⟨by (unfold SX.Ob; first | trivial | omega | ((try simp only [SX.inK]); (try simp [SX.den, SX.IsU8, SX.AllP, *]); (try omega))), ?_⟩
    intro a22 w22 hr22 _
    have hA : spanA c e = noA 60 := by rw [spanA, if_neg (by simpa using hm), if_neg (by simpa using hWi), if_pos hh]
    exact post_retn (endC1 hr22 rfl rfl rfl tok43 rfl ⟨.slice none 0 0, [D], by rw [hA]; rfl, by rw [hA]; exact OwS.nil.rd, fun x hx => .inl (by simpa using hx), hr22.keeps, fun h' => absurd ((congrArg Ans.er hA).symm.trans h') (by first | decide | exact hg)⟩).1
  have hM : M.any (spanQ e) = false := hheld.trans (by simpa using hh)
  refine seg cfg25_ok mixed PanicFree.body 1000 [false] [] h6 (by first | trivial | exact HpRep.nil | assumption) (by kernel_rfl) fun s_ hs_ => ?_
  simp (maxSteps := 10000000) [SX.vc, SX.stop, SX.contS, SX.contB, SX.sxStep, SX.stepPure, SX.stepNew, SX.stepStore, SX.guardIx, SX.evOp, SX.opd, SX.look, SX.putS, SX.gobs, SX.AllP, SX.leave, SX.lookT, SX.evLoad, SX.shapeUp, SX.evNew, SX.evStore, SX.TD.isAgg, cfg25, hM]
  refine ⟨by (unfold SX.Ob; first | trivial | omega | ((try simp only [SX.inK]); (try simp [SX.den, SX.IsU8, SX.AllP, *]); (try omega))), ?_⟩
  intro a7 w7 hr7 _
  refine post_call 47 [.ptr 0 D 0] hr7 (wanted_none rfl) rfl (callable 47 Try.func47) (next_ok w7 D c e vL vS vW hr7.all.1.1 l1 (by omega)) ?_
  rintro e8 w8 ⟨rfl, hk8, hD8⟩
  refine ⟨_, rfl, ?_⟩
  have hr8 := hr7.retK hk8 (fun z hz => .inr (by simpa using hz)) 38 (.v (.int .i64 (c.T.last + 1))) rfl _ (HpAll.wr hr7.all hk8 hD8) (by simp) rfl
  have z7 : w.heap.size ≤ w7.heap.size := hr7.keeps.size
  refine seg cfg25_ok mixed PanicFree.body 1000 [] [] hr8.rebase (by first | trivial | exact HpRep.nil | assumption) (by kernel_rfl) fun s_ hs_ => ?_
  simp (maxSteps := 10000000) [SX.vc, SX.stop, SX.contS, SX.contR, SX.contD, SX.sxStep, SX.stepPure, SX.stepNew, SX.stepKeep, SX.guardIx, SX.evOp, SX.opd, SX.look, SX.putS, SX.gobs, SX.AllP, SX.leave, SX.lookT, SX.lookN, SX.evLoad, SX.shapeUp, SX.evFieldAddr, SX.evNew, SX.evNil, SX.TD.isAgg, SX.thaw, cfg25, deskC, coC, evC]
  refine ⟨by (unfold SX.Ob; first | trivial | omega | ((try simp only [SX.inK]); (try simp [SX.den, SX.IsU8, SX.AllP, *]); (try omega))), ?_⟩
  intro a9 w9 hr9' ht9
  have hr9 := hr8.unbase hr9'
  have hS9 := h.S.keep hr9.keeps (nP1 h.nS)
  obtain ⟨g, hg0⟩ : ∃ g, S7.giveE c.S e.fr e.to e.h (c.T.last + 1) = g := ⟨_, rfl⟩
  refine post_callD 58 [.v vS, .v (.int .i64 e.fr), .v (.int .i64 e.to), .v (.int .i64 e.h), .v (.int .i64 (c.T.last + 1))] hr9 rfl (wanted_none rfl) rfl (callable 58 Try.func58) (S7.Give_ok w9 vS c.S e.fr e.to e.h (c.T.last + 1) hS9 (by omega)) ?_
  rintro e10 w10 ⟨v10, rfl, hO10, hb10⟩
  have ht10 := HpRep_below ht9 hb10
  obtain ⟨ad10, cp10, rfl⟩ := hO10.slice
  rw [hg0]
  refine ⟨_, rfl, ht10, ?_⟩
  have hr10 := hr9.ret hb10 62 (.tu [.v (.slice ad10 (S7.giveL c.S e.fr e.to e.h (c.T.last + 1)).length cp10), .v (.int .i64 g)]) rfl _ (hr9.all.below hb10) (by simp) rfl
  have z9 : w.heap.size ≤ w9.heap.size := hr9.keeps.size
  have q9 := hpLt hr9.all
  simp at q9
  by_cases hg : g = 0
  · subst hg
    refine seg cfg25_ok mixed PanicFree.body 1000 [false] [] hr10.rebase (by first | trivial | exact HpRep.nil | assumption) (by kernel_rfl) fun s_ hs_ => ?_
    simp (maxSteps := 10000000) [SX.vc, SX.stop, SX.contS, SX.contB, SX.contD, SX.sxStep, SX.stepPure, SX.stepNew, SX.stepStore, SX.guardIx, SX.evOp, SX.opd, SX.opds, SX.look, SX.putS, SX.gobs, SX.AllP, SX.leave, SX.lookT, SX.evBin, SX.evInt, SX.evFieldAddr, SX.evFill, SX.evBuild, SX.szs, SX.cellsV, SX.evNew, SX.evStore, SX.spliceL, SX.SV.cells, SX.evNil, SX.tails, SX.NotAgg, SX.frz, SX.Froz, SX.frzStep, Go.Value.cells, cfg25]
    refine ⟨by (unfold SX.Ob; first | trivial | omega | ((try simp only [SX.inK]); (try simp [SX.den, SX.IsU8, SX.AllP, *]); (try omega))), ?_⟩
    intro a11 w11 hr11' _
    have hr11 := hr10.unbase hr11'
    have hS11 := hO10.keep hr11'.keeps (by simp only [mutB]; simp; omega)
    have hA : spanA c e = okA (c.T.last + 1) := by rw [spanA, if_neg (by simpa using hm), if_neg (by simpa using hWi), if_neg (by simpa using hh), if_neg (by simpa using hg0)]
    exact post_retn (endC1 hr11 rfl rfl rfl tok43 rfl ⟨.slice none 0 0, [D], by rw [hA]; rfl, by rw [hA]; exact OwS.nil.rd, fun x hx => .inl (by simpa using hx), hr11.keeps, fun _ => ⟨vL, _, vW, hr11.all.1.1, (h.L.rd.keep hr11.keeps (nP1 h.nL)).mono fun x _ hx => .inl hx, hS11.rd.mono fun x _ hx => .inr (Nat.le_trans z9 hx), (h.W.rd.keep hr11.keeps (nP1 h.nW)).mono fun x _ hx => .inl hx⟩⟩).1
  · refine seg cfg25_ok mixed PanicFree.body 1000 [true] [] hr10 (by first | trivial | exact HpRep.nil | assumption) (by kernel_rfl) fun s_ hs_ => ?_
    simp (maxSteps := 10000000) [SX.vc, SX.stop, SX.contS, SX.contB, SX.contD, SX.sxStep, SX.stepPure, SX.stepNew, SX.stepStore, SX.guardIx, SX.evOp, SX.opd, SX.look, SX.putS, SX.gobs, SX.AllP, SX.leave, SX.lookT, SX.evBin, SX.evInt, SX.evFieldAddr, SX.evNew, SX.evStore, SX.spliceL, SX.SV.cells, SX.evNil, SX.tails, SX.NotAgg, SX.frz, SX.Froz, SX.frzStep, cfg25, hg]
    refine ⟨by (unfold SX.Ob; first | trivial | omega | ((try simp only [SX.inK]); (try simp [SX.den, SX.IsU8, SX.AllP, *]); (try omega))), ?_⟩
    intro a11 w11 hr11 _
    refine post_call 30 [.v (.int .i64 g)] hr11 (by first | exact wanted_none rfl | exact wanted_zero (hr11.env.same rfl rfl rfl rfl) rfl (by simp) | exact wanted_zero (hr11.env.same rfl rfl rfl rfl) rfl (by simp [*])) rfl (callable 30 Try.func30) (fails_ok _ _) ?_
    rintro e21 w21 ⟨rfl, hb21⟩
    refine ⟨_, rfl, ?_⟩
    have h21 := hr11.ret hb21 71 (.ag (ansC (noA g) (.slice none 0 0))) rfl _ (hr11.all.below hb21) (by simp) rfl
    refine seg cfg25_ok mixed PanicFree.body 1000 [] [] h21 (by first | trivial | exact HpRep.nil | assumption) (by kernel_rfl) fun s_ hs_ => ?_
    simp (maxSteps := 10000000) [SX.vc, SX.stop, SX.contS, SX.sxStep, SX.stepPure, SX.stepNew, SX.stepStore, SX.guardIx, SX.evOp, SX.opd, SX.look, SX.putS, SX.AllP, SX.leave, SX.lookT, SX.evNew, SX.evStore, SX.spliceL, SX.SV.cells, SX.NotAgg, cfg25, ansC, noA]
    refine ⟨by (unfold SX.Ob; first | trivial | omega | ((try simp only [SX.inK]); (try simp [SX.den, SX.IsU8, SX.AllP, *]); (try omega))), ?_⟩
    intro a22 w22 hr22 _
    have hA : spanA c e = noA g := by rw [spanA, if_neg (by simpa using hm), if_neg (by simpa using hWi), if_neg (by simpa using hh), if_pos (by rw [hg0]; exact hg), hg0]
    exact post_retn (endC1 hr22 rfl rfl rfl tok43 rfl ⟨.slice none 0 0, [D], by rw [hA]; rfl, by rw [hA]; exact OwS.nil.rd, fun x hx => .inl (by simpa using hx), hr22.keeps, fun h' => absurd ((congrArg Ans.er hA).symm.trans h') (by first | decide | exact hg)⟩).1
end Go.Proofs.C8
