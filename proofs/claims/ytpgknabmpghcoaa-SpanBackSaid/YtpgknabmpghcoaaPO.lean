/- Spans: cut. -/
import Derived.Test.YtpgknabmpghcoaaPM
import Derived.Test.YtpgknabmpghcoaaPN
namespace Go.Proofs
set_option linter.unusedVariables false
set_option linter.unusedSimpArgs false
open Go Go.SX Go.RowKit

/-- Whole numbers as a list. -/
def intC (x : Int) : List SV := [.v (.int .i64 x)]
abbrev RdI := RdS intC 1 (0 : Int)

/-- Cut at a place. -/
def cutS (a : Int) : List Spn → List Spn
  | [] => []
  | s :: r => if InS a s then (if s.fr = a then s :: r else { s with to := a } :: { s with fr := a } :: r) else s :: cutS a r
/-- Cut at places. -/
def cutsS : List Int → List Spn → List Spn
  | [], L => L
  | a :: A, L => cutsS A (cutS a L)

theorem cutS_no {a : Int} : ∀ {L : List Spn}, (∀ j, j < L.length → ¬ InS a (nth spn0 L j)) → cutS a L = L
  | [], _ => rfl
  | s :: r, h => by
    have h0 : ¬ InS a s := h 0 (by simp)
    rw [cutS, if_neg h0, cutS_no fun j hj => h (j + 1) (by simpa using hj)]
theorem cutS_at {a : Int} : ∀ {L : List Spn} {k : Nat}, k < L.length → InS a (nth spn0 L k) → (∀ j, j < k → ¬ InS a (nth spn0 L j)) →
    cutS a L = if (nth spn0 L k).fr = a then L else (L.set k { nth spn0 L k with to := a }).take (k + 1) ++ { nth spn0 L k with fr := a } :: (L.set k { nth spn0 L k with to := a }).drop (k + 1)
  | [], k, hk, _, _ => by simp at hk
  | s :: r, 0, _, hi, _ => by
    have hi' : InS a s := hi
    rw [cutS, if_pos hi']
    rfl
  | s :: r, k + 1, hk, hi, hno => by
    have h0 : ¬ InS a s := hno 0 (by omega)
    have ih := cutS_at (L := r) (k := k) (a := a) (by simpa using hk) hi fun j hj => hno (j + 1) (by omega)
    rw [cutS, if_neg h0, ih]
    show _ = if (nth spn0 r k).fr = a then _ else _
    split
    · rfl
    · rfl

theorem cutS_len (a : Int) : ∀ L : List Spn, (cutS a L).length ≤ L.length + 1
  | [] => by simp [cutS]
  | s :: r => by
    have := cutS_len a r
    unfold cutS
    split
    · split <;> simp
    · simp; omega
theorem cutS_pos (a : Int) : ∀ {L : List Spn}, 0 < L.length → 0 < (cutS a L).length
  | s :: r, _ => by
    unfold cutS
    split
    · split <;> simp
    · simp

def CutLoop (w : World) (va : Value) (A : List Int) (L : List Spn) (m : Nat) (a : Act) (w' : World) : Prop :=
  ∃ (k : Nat) (out : List Spn) (v' : Value), m = A.length - k ∧ k ≤ A.length ∧ cutsS (A.drop k) out = cutsS A L ∧ 0 < out.length ∧ out.length ≤ L.length + k ∧ OwP (fun x => w.heap.size ≤ x) w' v' out ∧
    RepX (frame0 w) ⟨[(14, 0, .v (.int .i64 k)), (13, 0, .v (.int .i64 A.length)), (12, 0, .v va), (5, 0, .v v')], [], 0, 0, 51, [], [], []⟩ a w'

set_option maxRecDepth 100000 in
set_option maxHeartbeats 8000000 in
/-- cut. -/
theorem cut_ok {P P' : Nat → Prop} (w : World) (v va : Value) (L : List Spn) (A : List Int) (hL : RdP P w v L) (hA : RdI P' w va A) (h0 : 0 < L.length) (hn : L.length ≤ 500000) (hnA : A.length ≤ 100000) : Calls Try.prog 26 (denL [.v v, .v va]).toArray w (OwR w (cutsS A L)) := by
  obtain ⟨ad, cp, rfl⟩ := hL.slice
  obtain ⟨ad', cp', rfl⟩ := hA.slice
  refine enter (F := frame0 w) Try.func26 rfl [.v (.slice ad L.length cp), .v (.slice ad' A.length cp')] [] (by simp [Try.f26]) trivial (keeps0 w) fun a hr => ?_
  refine seg cfg26_ok mixed PanicFree.body 1000 [] [] hr (by first | trivial | exact HpRep.nil | assumption) (by kernel_rfl) fun s_ hs_ => ?_
  simp (maxSteps := 10000000) [SX.vc, SX.stop, SX.contS, SX.contB, SX.contW, SX.contR, SX.contD, SX.sxStep, SX.stepPure, SX.stepNew, SX.stepStore, SX.stepKeep, SX.guardIx, SX.evOp, SX.opd, SX.opds, SX.optOpd, SX.look, SX.putS, SX.gobs, SX.AllP, SX.leave, SX.lookC, SX.lookB, SX.lookT, SX.lookN, SX.findK, SX.evBuiltin, SX.ints, SX.foldI, SX.evBin, SX.evInt, SX.evStr, SX.evEq, SX.arith, SX.evLoad, SX.shapeUp, SX.evFieldAddr, SX.evField, SX.evIndexAddr, SX.evIndex, SX.evFill, SX.evBuild, SX.szs, SX.cellsV, SX.evNew, SX.evStore, SX.spliceL, SX.SV.cells, SX.evConv, SX.evSlice, SX.bnd, SX.evNil, SX.evUn, SX.evPick, SX.pickOpd, SX.popTo, SX.cnd, SX.env0, SX.TD.isAgg, SX.TD.isIface, SX.tails, SX.NotAgg, SX.evLookup, SX.evConvH, SX.evPtrEq, SX.isCells, SX.thaw, SX.frz, SX.fixB, SX.rootIx, SX.Froz, SX.frzStep, SX.fork, Go.Value.cells, Go.undef, cfg26, Try.f26]
  refine ⟨by (unfold SX.Ob; first | trivial | omega | ((try simp only [SX.inK]); (try simp [SX.den, SX.IsU8, SX.AllP, *]); (try omega))), ?_⟩
  intro a1 w1 hr1 _
  have z1 : w.heap.size ≤ w1.heap.size := hr1.keeps.size
  refine post_call 33 [.v (.slice ad L.length cp)] hr1 (by first | exact wanted_none rfl | exact wanted_zero (hr1.env.same rfl rfl rfl rfl) rfl (by simp)) rfl (callable 33 Try.func33) (clone_ok w1 _ L (hL.below hr1.keeps.toBelow) h0 (by omega)) ?_
  rintro e2 w2 ⟨v2, rfl, hO2, hb2⟩
  refine ⟨_, rfl, ?_⟩
  have h2 := hr1.ret hb2 11 (.v v2) rfl _ (hr1.all.below hb2) (by simp) rfl
  refine seg cfg26_ok mixed PanicFree.body 1000 [] [] h2.rebase (by first | trivial | exact HpRep.nil | assumption) (by kernel_rfl) fun s_ hs_ => ?_
  simp (maxSteps := 10000000) [SX.vc, SX.stop, SX.contS, SX.contB, SX.contW, SX.contR, SX.contD, SX.sxStep, SX.stepPure, SX.stepNew, SX.stepStore, SX.stepKeep, SX.guardIx, SX.evOp, SX.opd, SX.opds, SX.optOpd, SX.look, SX.putS, SX.gobs, SX.AllP, SX.leave, SX.lookC, SX.lookB, SX.lookT, SX.lookN, SX.findK, SX.evBuiltin, SX.ints, SX.foldI, SX.evBin, SX.evInt, SX.evStr, SX.evEq, SX.arith, SX.evLoad, SX.shapeUp, SX.evFieldAddr, SX.evField, SX.evIndexAddr, SX.evIndex, SX.evFill, SX.evBuild, SX.szs, SX.cellsV, SX.evNew, SX.evStore, SX.spliceL, SX.SV.cells, SX.evConv, SX.evSlice, SX.bnd, SX.evNil, SX.evUn, SX.evPick, SX.pickOpd, SX.popTo, SX.cnd, SX.env0, SX.TD.isAgg, SX.TD.isIface, SX.tails, SX.NotAgg, SX.evLookup, SX.evConvH, SX.evPtrEq, SX.isCells, SX.thaw, SX.frz, SX.fixB, SX.rootIx, SX.Froz, SX.frzStep, SX.fork, Go.Value.cells, Go.undef, cfg26]
  refine ⟨by (unfold SX.Ob; first | trivial | omega | ((try simp only [SX.inK]); (try simp [SX.den, SX.IsU8, SX.AllP, *]); (try omega))), ?_⟩
  intro a3 w3 hr3' _
  have hr3 := h2.unbase hr3'
  refine post_loop (CutLoop w (.slice ad' A.length cp') A L) A.length ⟨0, L, v2, rfl, by omega, rfl, h0, by omega, ((hO2.mono (P' := fun x => w.heap.size ≤ x) fun x _ h => by omega).keep hr3'.keeps (by simp [frameAt, mutB])), hr3.re (by simp [envTo, SX.look, den]) trivial rfl rfl⟩ ?_
  rintro m a4 w4 ⟨k, out, v', rfl, hk, hj, hop, hol, hO, hr4⟩
  have z4 : w.heap.size ≤ w4.heap.size := hr4.keeps.size
  by_cases hlt : k < A.length
  · obtain ⟨b, o0, cap, u, fz, hP, hv, hrep⟩ := hA.opn hlt
    cases hv
    have hbw := SO.rep_lt hrep
    have hrep2 := SO.rep_same hrep (hr4.keeps.toBelow.block _ hbw)
    obtain ⟨x, hx⟩ : ∃ x, nth (0 : Int) A k = x := ⟨_, rfl⟩
    rw [drop_nth (d := (0 : Int)) hlt, hx, cutsS] at hj
    have h5 := (hr4.top 12 (.sl 0 b o0 0 A.length cp' 1) rfl (by simp [den])).see _ (HpAll.one hrep2)
    refine seg cfg26_ok mixed PanicFree.body 1000 [true] [] h5.rebase (by first | trivial | exact HpRep.nil | assumption) (by kernel_rfl) fun s_ hs_ => ?_
    simp (maxSteps := 10000000) [SX.vc, SX.stop, SX.contS, SX.contB, SX.contW, SX.contR, SX.contD, SX.sxStep, SX.stepPure, SX.stepNew, SX.stepStore, SX.stepKeep, SX.guardIx, SX.evOp, SX.opd, SX.opds, SX.optOpd, SX.look, SX.putS, SX.gobs, SX.AllP, SX.leave, SX.lookC, SX.lookB, SX.lookT, SX.lookN, SX.findK, SX.evBuiltin, SX.ints, SX.foldI, SX.evBin, SX.evInt, SX.evStr, SX.evEq, SX.arith, SX.evLoad, SX.shapeUp, SX.evFieldAddr, SX.evField, SX.evIndexAddr, SX.evIndex, SX.evFill, SX.evBuild, SX.szs, SX.cellsV, SX.evNew, SX.evStore, SX.spliceL, SX.SV.cells, SX.evConv, SX.evSlice, SX.bnd, SX.evNil, SX.evUn, SX.evPick, SX.pickOpd, SX.popTo, SX.cnd, SX.env0, SX.TD.isAgg, SX.TD.isIface, SX.tails, SX.NotAgg, SX.evLookup, SX.evConvH, SX.evPtrEq, SX.isCells, SX.thaw, SX.frz, SX.fixB, SX.rootIx, SX.Froz, SX.frzStep, SX.fork, Go.Value.cells, Go.undef, cfg26, intC, hx]
    refine ⟨by (unfold SX.Ob; first | trivial | omega | ((try simp only [SX.inK]); (try simp [SX.den, SX.IsU8, SX.AllP, *]); (try omega))), ?_⟩
    intro a6 w6 hr6' _
    have hr6 := h5.unbase hr6'
    have hO6 := hO.keep hr6'.keeps (by simp [frameAt, mutB])
    have z6 : w.heap.size ≤ w6.heap.size := hr6.keeps.size
    refine post_call 27 [.v v', .v (.int .i64 x)] hr6 (by first | exact wanted_none rfl | exact wanted_zero (hr6.env.same rfl rfl rfl rfl) rfl (by simp)) rfl (callable 27 Try.func27) (find_ok w6 v' out x hO6.rd (by omega)) ?_
    rintro e7 w7 ⟨i, rfl, hi, hb7⟩
    refine ⟨_, rfl, ?_⟩
    have h7 := hr6.ret hb7 20 (.v (.int .i64 i)) rfl _ (hr6.all.below hb7) (by simp) rfl
    have hO7 := hO6.below hb7
    have z7 : w.heap.size ≤ w7.heap.size := h7.keeps.size
    have fin : ∀ (out2 : List Spn) (v2 : Value) (a8 : Act) (w8 : World), cutS x out = out2 → OwP (fun z => w.heap.size ≤ z) w8 v2 out2 → ∀ (st : St), RepX (frame0 w) st a8 w8 → True := fun _ _ _ _ _ _ _ _ => trivial
    clear fin
    rcases hi with ⟨q, rfl, hq, hin, hno⟩ | ⟨rfl, hno⟩
    rotate_left
    · have hc := cutS_no hno
      refine seg cfg26_ok mixed PanicFree.body 1000 [true] [(23, true)] h7.rebase (by first | trivial | exact HpRep.nil | assumption) (by kernel_rfl) fun s_ hs_ => ?_
      simp (maxSteps := 10000000) [SX.vc, SX.stop, SX.contS, SX.contB, SX.contW, SX.contR, SX.contD, SX.sxStep, SX.stepPure, SX.stepNew, SX.stepStore, SX.stepKeep, SX.guardIx, SX.evOp, SX.opd, SX.opds, SX.optOpd, SX.look, SX.putS, SX.gobs, SX.AllP, SX.leave, SX.lookC, SX.lookB, SX.lookT, SX.lookN, SX.findK, SX.evBuiltin, SX.ints, SX.foldI, SX.evBin, SX.evInt, SX.evStr, SX.evEq, SX.arith, SX.evLoad, SX.shapeUp, SX.evFieldAddr, SX.evField, SX.evIndexAddr, SX.evIndex, SX.evFill, SX.evBuild, SX.szs, SX.cellsV, SX.evNew, SX.evStore, SX.spliceL, SX.SV.cells, SX.evConv, SX.evSlice, SX.bnd, SX.evNil, SX.evUn, SX.evPick, SX.pickOpd, SX.popTo, SX.cnd, SX.env0, SX.TD.isAgg, SX.TD.isIface, SX.tails, SX.NotAgg, SX.evLookup, SX.evConvH, SX.evPtrEq, SX.isCells, SX.thaw, SX.frz, SX.fixB, SX.rootIx, SX.Froz, SX.frzStep, SX.fork, Go.Value.cells, Go.undef, cfg26]
      refine ⟨by (unfold SX.Ob; first | trivial | omega | ((try simp only [SX.inK]); (try simp [SX.den, SX.IsU8, SX.AllP, *]); (try omega))), ?_⟩
      intro a8 w8 hr8' _
      have hr8 := h7.unbase hr8'
      exact post_rnd (A.length - (k + 1)) (by omega) ⟨k + 1, out, v', rfl, by omega, by rw [← hj, hc], hop, by omega, hO7.keep hr8'.keeps (by simp [frameAt, mutB]), hr8.re (by simp [envTo, SX.look, den]) trivial rfl rfl⟩
    obtain ⟨b', N, cap', u', row, hP', hv', hc0, hc1, hc2, hrep', hrow⟩ := hO7.opn hq
    cases hv'
    obtain ⟨y, hy⟩ : ∃ y, nth spn0 out q = y := ⟨_, rfl⟩
    have hrq : row q = [.v (.int .i64 y.fr), .v (.int .i64 y.to), .v (.int .i64 y.ow), .v (.int .i64 y.ep)] := by rw [hrow q hq, hy]; rfl
    have hc := cutS_at hq hin hno
    rw [hy] at hc
    have hq0 : ¬ ((q : Int) < 0) := by omega
    have hqN : q < N := by omega
    have h8 := (h7.top 5 (.sl 0 b' 0 0 out.length cap' 4) rfl (by simp [den])).see [(b', true, .arr 0 N row 4 u' (0, 0))] ⟨⟨hrep', fun _ => .inl hP', by simp⟩, trivial⟩
    by_cases hyx : y.fr = x
    · rw [if_pos hyx] at hc
      refine seg cfg26_ok mixed PanicFree.body 1000 [true] [(23, false)] h8.rebase (by first | trivial | exact HpRep.nil | assumption) (by kernel_rfl) fun s_ hs_ => ?_
      simp (maxSteps := 10000000) [SX.vc, SX.stop, SX.contS, SX.contB, SX.contW, SX.contR, SX.contD, SX.sxStep, SX.stepPure, SX.stepNew, SX.stepStore, SX.stepKeep, SX.guardIx, SX.evOp, SX.opd, SX.opds, SX.optOpd, SX.look, SX.putS, SX.gobs, SX.AllP, SX.leave, SX.lookC, SX.lookB, SX.lookT, SX.lookN, SX.findK, SX.evBuiltin, SX.ints, SX.foldI, SX.evBin, SX.evInt, SX.evStr, SX.evEq, SX.arith, SX.evLoad, SX.shapeUp, SX.evFieldAddr, SX.evField, SX.evIndexAddr, SX.evIndex, SX.evFill, SX.evBuild, SX.szs, SX.cellsV, SX.evNew, SX.evStore, SX.spliceL, SX.SV.cells, SX.evConv, SX.evSlice, SX.bnd, SX.evNil, SX.evUn, SX.evPick, SX.pickOpd, SX.popTo, SX.cnd, SX.env0, SX.TD.isAgg, SX.TD.isIface, SX.tails, SX.NotAgg, SX.evLookup, SX.evConvH, SX.evPtrEq, SX.isCells, SX.thaw, SX.frz, SX.fixB, SX.rootIx, SX.Froz, SX.frzStep, SX.fork, Go.Value.cells, Go.undef, cfg26, hq0, hrq, hyx]
      refine ⟨by (unfold SX.Ob; first | trivial | omega | ((try simp only [SX.inK]); (try simp [SX.den, SX.IsU8, SX.AllP, *]); (try omega))), ?_⟩
      intro a9 w9 hr9' _
      have hr9 := h8.unbase hr9'
      exact post_rnd (A.length - (k + 1)) (by omega) ⟨k + 1, out, _, rfl, by omega, by rw [← hj, hc], hop, by omega, .inr ⟨b', N, cap', u', row, hP', rfl, hc0, hc1, hc2, hr9.all.1.1, hrow⟩, hr9.re (by simp [envTo, SX.look, den]) trivial rfl rfl⟩
    · rw [if_neg hyx] at hc
      refine seg cfg26_ok mixed PanicFree.body 1000 [false] [(23, false)] h8.rebase (by first | trivial | exact HpRep.nil | assumption) (by kernel_rfl) fun sN hsN => ?_
      simp (maxSteps := 10000000) [SX.vc, SX.stop, SX.contS, SX.contB, SX.contW, SX.contR, SX.contD, SX.sxStep, SX.stepPure, SX.stepNew, SX.stepStore, SX.stepKeep, SX.guardIx, SX.evOp, SX.opd, SX.opds, SX.optOpd, SX.look, SX.putS, SX.gobs, SX.AllP, SX.leave, SX.lookC, SX.lookB, SX.lookT, SX.lookN, SX.findK, SX.evBuiltin, SX.ints, SX.foldI, SX.evBin, SX.evInt, SX.evStr, SX.evEq, SX.arith, SX.evLoad, SX.shapeUp, SX.evFieldAddr, SX.evField, SX.evIndexAddr, SX.evIndex, SX.evFill, SX.evBuild, SX.szs, SX.cellsV, SX.evNew, SX.evStore, SX.spliceL, SX.SV.cells, SX.evConv, SX.evSlice, SX.bnd, SX.evNil, SX.evUn, SX.evPick, SX.pickOpd, SX.popTo, SX.cnd, SX.env0, SX.TD.isAgg, SX.TD.isIface, SX.tails, SX.NotAgg, SX.evLookup, SX.evConvH, SX.evPtrEq, SX.isCells, SX.thaw, SX.frz, SX.fixB, SX.rootIx, SX.Froz, SX.frzStep, SX.fork, Go.Value.cells, Go.undef, cfg26, hq0, hrq, hyx]
      refine ⟨by (unfold SX.Ob; first | trivial | omega | ((try simp only [SX.inK]); (try simp [SX.den, SX.IsU8, SX.AllP, *]); (try omega))), ?_⟩
      intro a9 w9 hr9' _
      have hr9 := h8.unbase hr9'
      have hbw7 := SO.rep_lt hrep'
      have hO9 : OwP (fun z => z = b') w9 (.slice (some ⟨b', 0, none⟩) out.length cap') (out.set q { y with to := x }) := .inr ⟨b', N, cap', u', _, rfl, by simp, hc0, by simpa using hc1, hc2, hr9.all.1.1, fun j hj => (by
        simp only [List.length_set] at hj
        unfold setRow
        by_cases hjq : j = q
        · subst hjq
          rw [if_pos rfl, nth_lt (by simpa using hj)]
          simp [spnC]
        · rw [if_neg hjq, hrow j hj, nth_lt hj, nth_lt (by simpa using hj), List.getElem_set_ne (by omega)])⟩
      have hins := insert_ok w9 _ _ hO9 (q + 1) (by simpa using hop) (by simp; omega) (by simp; omega) (sN + 1) 35 { y with fr := x } (rep_arr_sub hr9.all.2.2.1.1 (Nat.le_refl _) (fun j hj => by
        obtain rfl : j = 0 := by omega
        simp [spnC])) (by omega)
      refine post_call 37 [.sl 0 b' 0 0 out.length cap' 4, .v (.int .i64 ((q : Int) + 1)), .sl 2 (sN + 1) 0 0 1 1 4] hr9 (wanted_none rfl) rfl (callable 37 Try.func37) hins ?_
      rintro e10 w10 ⟨V, B, rfl, hO10, hB, hk10⟩
      refine ⟨_, rfl, ?_⟩
      have z9 : w.heap.size ≤ w9.heap.size := hr9.keeps.size
      have hr10 := hr9.retK hk10 (fun z hz => .inl (by
        have := (hB z hz).1
        show w.heap.size ≤ z
        omega)) 48 (.v V) rfl [] trivial (by simp) rfl
      refine seg cfg26_ok mixed PanicFree.body 1000 [] [] hr10.rebase (by first | trivial | exact HpRep.nil | assumption) (by kernel_rfl) fun s_ hs_ => ?_
      simp (maxSteps := 10000000) [SX.vc, SX.stop, SX.contS, SX.contB, SX.contW, SX.contR, SX.contD, SX.sxStep, SX.stepPure, SX.stepNew, SX.stepStore, SX.stepKeep, SX.guardIx, SX.evOp, SX.opd, SX.opds, SX.optOpd, SX.look, SX.putS, SX.gobs, SX.AllP, SX.leave, SX.lookC, SX.lookB, SX.lookT, SX.lookN, SX.findK, SX.evBuiltin, SX.ints, SX.foldI, SX.evBin, SX.evInt, SX.evStr, SX.evEq, SX.arith, SX.evLoad, SX.shapeUp, SX.evFieldAddr, SX.evField, SX.evIndexAddr, SX.evIndex, SX.evFill, SX.evBuild, SX.szs, SX.cellsV, SX.evNew, SX.evStore, SX.spliceL, SX.SV.cells, SX.evConv, SX.evSlice, SX.bnd, SX.evNil, SX.evUn, SX.evPick, SX.pickOpd, SX.popTo, SX.cnd, SX.env0, SX.TD.isAgg, SX.TD.isIface, SX.tails, SX.NotAgg, SX.evLookup, SX.evConvH, SX.evPtrEq, SX.isCells, SX.thaw, SX.frz, SX.fixB, SX.rootIx, SX.Froz, SX.frzStep, SX.fork, Go.Value.cells, Go.undef, cfg26]
      refine ⟨by (unfold SX.Ob; first | trivial | omega | ((try simp only [SX.inK]); (try simp [SX.den, SX.IsU8, SX.AllP, *]); (try omega))), ?_⟩
      intro a11 w11 hr11' _
      have hr11 := hr10.unbase hr11'
      exact post_rnd (A.length - (k + 1)) (by omega) ⟨k + 1, _, V, rfl, by omega, by rw [← hj, hc], by simp; omega, by simp; omega, ((hO10.mono (P' := fun z => w.heap.size ≤ z) fun z _ h => by rcases h with h | h <;> omega).keep hr11'.keeps (by simp [frameAt, mutB])), hr11.re (by simp [envTo, SX.look, den]) trivial rfl rfl⟩
  · obtain rfl : k = A.length := by omega
    refine seg cfg26_ok mixed PanicFree.body 1000 [false] [] hr4.rebase (by first | trivial | exact HpRep.nil | assumption) (by kernel_rfl) fun s_ hs_ => ?_
    simp (maxSteps := 10000000) [SX.vc, SX.stop, SX.contS, SX.contB, SX.contW, SX.contR, SX.contD, SX.sxStep, SX.stepPure, SX.stepNew, SX.stepStore, SX.stepKeep, SX.guardIx, SX.evOp, SX.opd, SX.opds, SX.optOpd, SX.look, SX.putS, SX.gobs, SX.AllP, SX.leave, SX.lookC, SX.lookB, SX.lookT, SX.lookN, SX.findK, SX.evBuiltin, SX.ints, SX.foldI, SX.evBin, SX.evInt, SX.evStr, SX.evEq, SX.arith, SX.evLoad, SX.shapeUp, SX.evFieldAddr, SX.evField, SX.evIndexAddr, SX.evIndex, SX.evFill, SX.evBuild, SX.szs, SX.cellsV, SX.evNew, SX.evStore, SX.spliceL, SX.SV.cells, SX.evConv, SX.evSlice, SX.bnd, SX.evNil, SX.evUn, SX.evPick, SX.pickOpd, SX.popTo, SX.cnd, SX.env0, SX.TD.isAgg, SX.TD.isIface, SX.tails, SX.NotAgg, SX.evLookup, SX.evConvH, SX.evPtrEq, SX.isCells, SX.thaw, SX.frz, SX.fixB, SX.rootIx, SX.Froz, SX.frzStep, SX.fork, Go.Value.cells, Go.undef, cfg26]
    refine ⟨by (unfold SX.Ob; first | trivial | omega | ((try simp only [SX.inK]); (try simp [SX.den, SX.IsU8, SX.AllP, *]); (try omega))), ?_⟩
    intro a6 w6 hr6' _
    have hr6 := hr4.unbase hr6'
    refine post_retn (end1 hr6 rfl rfl ⟨_, rfl, ?_, hr6.keeps.toBelow⟩).1
    rw [← hj, List.drop_length, cutsS]
    exact hO.keep hr6'.keeps (by simp [frameAt, mutB])
end Go.Proofs
