/- Extents: Join. -/
import Derived.Test.YtpbihcfmjnidbaaEF
namespace Go.Proofs
set_option linter.unusedVariables false
set_option linter.unusedSimpArgs false
open Go Go.SX Go.RowKit

def joinStep (out : List Ext) (e : Ext) : List Ext :=
  if 0 < out.length ∧ Goes (nth ext0 out (out.length - 1)) e then out.set (out.length - 1) { nth ext0 out (out.length - 1) with n := (nth ext0 out (out.length - 1)).n + e.n } else out ++ [e]
def joinGo (out : List Ext) : List Ext → List Ext
  | [] => out
  | e :: r => joinGo (joinStep out e) r
def joinE (L : List Ext) : List Ext := if Chk L then joinGo [] L else []

theorem Goes.eqs {a b : Ext} (h : Goes a b) (ha : 1 ≤ a.n) : b.lba = a.lba + a.n ∧ b.ver = a.ver ∧ b.zone = a.zone ∧ b.off = if a.zone = -1 then a.off else a.off + a.n * 16 := by
  obtain ⟨h1, h2⟩ := h
  unfold fromE at h2
  have h3 : 0 < b.lba - a.lba := by omega
  simp only [if_pos h3] at h2
  have h4 : b.lba - a.lba = a.n := by omega
  rw [h4] at h2
  cases b
  simp only [Ext.mk.injEq] at h2 h1 ⊢
  exact ⟨h1, h2.2.2.1.symm, h2.2.2.2.1.symm, h2.2.2.2.2.symm⟩
theorem Goes.of {a b : Ext} (ha : 1 ≤ a.n) (h1 : b.lba = a.lba + a.n) (h2 : b.ver = a.ver) (h3 : b.zone = a.zone) (h4 : b.off = if a.zone = -1 then a.off else a.off + a.n * 16) : Goes a b := by
  refine ⟨h1, ?_⟩
  unfold fromE
  have h5 : 0 < b.lba - a.lba := by omega
  have h6 : b.lba - a.lba = a.n := by omega
  simp only [if_pos h5]
  rw [h6]
  cases b
  simp only [Ext.mk.injEq] at *
  exact ⟨trivial, by omega, h2.symm, h3.symm, h4.symm⟩
theorem Goes.may {a b : Ext} (h : Goes a b) (ha : May a) (hb : May b) : May { a with n := a.n + b.n } := by
  have h1 := h.eqs ha.2.1
  unfold May at ha hb ⊢
  simp only
  obtain ⟨e1, e2, e3, e4⟩ := h1
  split at e4 <;> omega

theorem May.sum {a b : Ext} (ha : May a) (hb : May b) : Sm (a.n + b.n) := by
  unfold May at ha hb
  unfold Sm
  omega

def JLoop (w : World) (v : Value) (L : List Ext) (m : Nat) (a : Act) (w' : World) : Prop :=
  ∃ (k : Nat) (out : List Ext) (v' : Value), m = L.length - k ∧ k ≤ L.length ∧ joinGo out (L.drop k) = joinGo [] L ∧ (∀ x ∈ out, May x) ∧ out.length ≤ k ∧ OwE (fun x => w.heap.size ≤ x) w' v' out ∧
    RepX (frame0 w) ⟨[(12, 0, .v (.int .i64 k)), (11, 0, .v (.int .i64 L.length)), (10, 0, .v v), (3, 0, .v v')], [], 0, 0, 45, [], [], []⟩ a w'

def LstPost (w : World) (L : List Ext) (e : Ending) (w' : World) : Prop := ∃ v', e = .returned v' ∧ OwE (fun x => w.heap.size ≤ x) w' v' L ∧ Below w.heap.size w w'

set_option maxRecDepth 100000 in
set_option maxHeartbeats 8000000 in
theorem join_ok {P : Nat → Prop} (w : World) (v : Value) (L : List Ext) (hL : RdE P w v L) (hn : L.length ≤ 1000000) : Calls Try.prog 21 (denL [.v v]).toArray w (LstPost w (joinE L)) := by
  obtain ⟨ad, cp, rfl⟩ := hL.slice
  refine enter (F := frame0 w) Try.func21 rfl [.v (.slice ad L.length cp)] [] (by simp [Try.f21]) trivial (keeps0 w) fun a hr => ?_
  refine seg cfg21_ok mixed PanicFree.body 1000 [] [] hr (by first | trivial | exact HpRep.nil | assumption) (by kernel_rfl) fun s_ hs_ => ?_
  simp (maxSteps := 10000000) [SX.vc, SX.stop, SX.contS, SX.contB, SX.contW, SX.contR, SX.contD, SX.sxStep, SX.stepPure, SX.stepNew, SX.stepStore, SX.stepKeep, SX.guardIx, SX.evOp, SX.opd, SX.opds, SX.optOpd, SX.look, SX.putS, SX.gobs, SX.AllP, SX.leave, SX.lookC, SX.lookB, SX.lookT, SX.lookN, SX.findK, SX.evBuiltin, SX.ints, SX.foldI, SX.evBin, SX.evInt, SX.evStr, SX.evEq, SX.arith, SX.evLoad, SX.shapeUp, SX.evFieldAddr, SX.evField, SX.evIndexAddr, SX.evIndex, SX.evFill, SX.evBuild, SX.szs, SX.cellsV, SX.evNew, SX.evStore, SX.spliceL, SX.SV.cells, SX.evConv, SX.evSlice, SX.bnd, SX.evNil, SX.evUn, SX.evPick, SX.pickOpd, SX.popTo, SX.cnd, SX.env0, SX.TD.isAgg, SX.TD.isIface, SX.tails, SX.NotAgg, SX.evLookup, SX.evConvH, SX.evPtrEq, SX.isCells, SX.thaw, SX.frz, SX.fixB, SX.rootIx, SX.Froz, SX.frzStep, SX.fork, Go.Value.cells, Go.undef, cfg21, Try.f21]
  refine ⟨by (unfold SX.Ob; first | trivial | omega | ((try simp only [SX.inK]); (try simp [SX.den, SX.IsU8, SX.AllP, *]); (try omega))), ?_⟩
  intro a1 w1 hr1 _
  refine post_call 22 [.v (.slice ad L.length cp)] hr1 (by first | exact wanted_none rfl | exact wanted_zero (hr1.env.same rfl rfl rfl rfl) rfl (by simp)) rfl (callable 22 Try.func22) (check_ok w1 _ L (hL.below hr1.keeps.toBelow) hn) ?_
  rintro e2 w2 ⟨rfl, hb2⟩
  refine ⟨_, rfl, ?_⟩
  have h2 := hr1.ret hb2 8 (.v (.int .i64 (chkE L))) rfl _ (hr1.all.below hb2) (by simp) rfl
  by_cases hC : Chk L
  rotate_left
  · have hc : chkE L = 1 := if_neg hC
    refine seg cfg21_ok mixed PanicFree.body 1000 [true] [] h2 (by first | trivial | exact HpRep.nil | assumption) (by kernel_rfl) fun s_ hs_ => ?_
    simp (maxSteps := 10000000) [SX.vc, SX.stop, SX.contS, SX.contB, SX.contW, SX.contR, SX.contD, SX.sxStep, SX.stepPure, SX.stepNew, SX.stepStore, SX.stepKeep, SX.guardIx, SX.evOp, SX.opd, SX.opds, SX.optOpd, SX.look, SX.putS, SX.gobs, SX.AllP, SX.leave, SX.lookC, SX.lookB, SX.lookT, SX.lookN, SX.findK, SX.evBuiltin, SX.ints, SX.foldI, SX.evBin, SX.evInt, SX.evStr, SX.evEq, SX.arith, SX.evLoad, SX.shapeUp, SX.evFieldAddr, SX.evField, SX.evIndexAddr, SX.evIndex, SX.evFill, SX.evBuild, SX.szs, SX.cellsV, SX.evNew, SX.evStore, SX.spliceL, SX.SV.cells, SX.evConv, SX.evSlice, SX.bnd, SX.evNil, SX.evUn, SX.evPick, SX.pickOpd, SX.popTo, SX.cnd, SX.env0, SX.TD.isAgg, SX.TD.isIface, SX.tails, SX.NotAgg, SX.evLookup, SX.evConvH, SX.evPtrEq, SX.isCells, SX.thaw, SX.frz, SX.fixB, SX.rootIx, SX.Froz, SX.frzStep, SX.fork, Go.Value.cells, Go.undef, cfg21, hc]
    refine ⟨by (unfold SX.Ob; first | trivial | omega | ((try simp only [SX.inK]); (try simp [SX.den, SX.IsU8, SX.AllP, *]); (try omega))), ?_⟩
    intro a3 w3 hr3 _
    exact post_retn (end1 hr3 rfl rfl ⟨_, rfl, by rw [joinE, if_neg hC]; exact OwS.nil, hr3.keeps.toBelow⟩).1
  have hc : chkE L = 0 := if_pos hC
  refine seg cfg21_ok mixed PanicFree.body 1000 [false] [] h2 (by first | trivial | exact HpRep.nil | assumption) (by kernel_rfl) fun s_ hs_ => ?_
  simp (maxSteps := 10000000) [SX.vc, SX.stop, SX.contS, SX.contB, SX.contW, SX.contR, SX.contD, SX.sxStep, SX.stepPure, SX.stepNew, SX.stepStore, SX.stepKeep, SX.guardIx, SX.evOp, SX.opd, SX.opds, SX.optOpd, SX.look, SX.putS, SX.gobs, SX.AllP, SX.leave, SX.lookC, SX.lookB, SX.lookT, SX.lookN, SX.findK, SX.evBuiltin, SX.ints, SX.foldI, SX.evBin, SX.evInt, SX.evStr, SX.evEq, SX.arith, SX.evLoad, SX.shapeUp, SX.evFieldAddr, SX.evField, SX.evIndexAddr, SX.evIndex, SX.evFill, SX.evBuild, SX.szs, SX.cellsV, SX.evNew, SX.evStore, SX.spliceL, SX.SV.cells, SX.evConv, SX.evSlice, SX.bnd, SX.evNil, SX.evUn, SX.evPick, SX.pickOpd, SX.popTo, SX.cnd, SX.env0, SX.TD.isAgg, SX.TD.isIface, SX.tails, SX.NotAgg, SX.evLookup, SX.evConvH, SX.evPtrEq, SX.isCells, SX.thaw, SX.frz, SX.fixB, SX.rootIx, SX.Froz, SX.frzStep, SX.fork, Go.Value.cells, Go.undef, cfg21, hc]
  refine ⟨by (unfold SX.Ob; first | trivial | omega | ((try simp only [SX.inK]); (try simp [SX.den, SX.IsU8, SX.AllP, *]); (try omega))), ?_⟩
  intro a3 w3 hr3 _
  refine post_loop (JLoop w (.slice ad L.length cp) L) L.length ⟨0, [], .slice none 0 0, rfl, by omega, rfl, by simp, by simp, OwS.nil, hr3.re (by simp [envTo, SX.look]) trivial rfl rfl⟩ ?_
  rintro m a4 w4 ⟨k, out, v', rfl, hk, hj, hmay, hol, hO, hr4⟩
  have z4 : w.heap.size ≤ w4.heap.size := hr4.keeps.size
  by_cases hlt : k < L.length
  · obtain ⟨b, o0, cap, u, fz, hP, hv, hrep⟩ := hL.opn hlt
    cases hv
    have hbw := SO.rep_lt hrep
    have hrep2 := SO.rep_same hrep (hr4.keeps.toBelow.block _ hbw)
    obtain ⟨x, hx⟩ : ∃ x, nth ext0 L k = x := ⟨_, rfl⟩
    have hM : May x := hx ▸ hC.may hlt
    rw [drop_nth (d := ext0) hlt, hx, joinGo] at hj
    rcases hq : out.length with _ | q
    · obtain rfl : out = [] := List.length_eq_zero_iff.1 hq
      obtain ⟨vd, vc, rfl⟩ := hO.slice
      have h5 := (hr4.top 10 (.sl 0 b o0 0 L.length cp 5) rfl (by simp [den])).see _ (HpAll.one hrep2)
      refine seg cfg21_ok mixed PanicFree.body 1000 [true, false] [(21, false)] h5.rebase (by first | trivial | exact HpRep.nil | assumption) (by kernel_rfl) fun s_ hs_ => ?_
      simp (maxSteps := 10000000) [SX.vc, SX.stop, SX.contS, SX.contB, SX.contW, SX.contR, SX.contD, SX.sxStep, SX.stepPure, SX.stepNew, SX.stepStore, SX.stepKeep, SX.guardIx, SX.evOp, SX.opd, SX.opds, SX.optOpd, SX.look, SX.putS, SX.gobs, SX.AllP, SX.leave, SX.lookC, SX.lookB, SX.lookT, SX.lookN, SX.findK, SX.evBuiltin, SX.ints, SX.foldI, SX.evBin, SX.evInt, SX.evStr, SX.evEq, SX.arith, SX.evLoad, SX.shapeUp, SX.evFieldAddr, SX.evField, SX.evIndexAddr, SX.evIndex, SX.evFill, SX.evBuild, SX.szs, SX.cellsV, SX.evNew, SX.evStore, SX.spliceL, SX.SV.cells, SX.evConv, SX.evSlice, SX.bnd, SX.evNil, SX.evUn, SX.evPick, SX.pickOpd, SX.popTo, SX.cnd, SX.env0, SX.TD.isAgg, SX.TD.isIface, SX.tails, SX.NotAgg, SX.evLookup, SX.evConvH, SX.evPtrEq, SX.isCells, SX.thaw, SX.frz, SX.fixB, SX.rootIx, SX.Froz, SX.frzStep, SX.fork, Go.Value.cells, Go.undef, cfg21, extC, hx]
      refine ⟨by (unfold SX.Ob; first | trivial | omega | ((try simp only [SX.inK]); (try simp [SX.den, SX.IsU8, SX.AllP, *]); (try omega))), ?_⟩
      intro a6 w6 hr6' _
      have hr6 := h5.unbase hr6'
      have z6 : w.heap.size ≤ w6.heap.size := hr6.keeps.size
      have hO6 := hO.keep hr6'.keeps (by simp [frameAt, mutB])
      refine post_app (C := cfg21) cfg21_ok hr6 (by first | exact wanted_none rfl | exact wanted_zero (hr6.env.same rfl rfl rfl rfl) rfl (by simp)) rfl (by simp) rfl rfl rfl rfl rfl rfl rfl rfl rfl (by decide) (flatE _) (by (try simp only [List.length_append, List.length_cons, List.length_nil, List.length_map, List.length_take]); omega) (fun x hx => Nat.le_trans z6 hx) hO6 (RdS.lit (x := x) hr6.all.2.2.1.1 (by simp [extC])) [] (fun _ _ _ _ => trivial) (fun x hx => .inl hx) fun V7 a7 w7 B7 hO7 hB7 hk7 hr7 => ?_
      refine seg cfg21_ok mixed PanicFree.body 1000 [] [] hr7.rebase (by first | trivial | exact HpRep.nil | assumption) (by kernel_rfl) fun s_ hs_ => ?_
      simp (maxSteps := 10000000) [SX.vc, SX.stop, SX.contS, SX.contB, SX.contW, SX.contR, SX.contD, SX.sxStep, SX.stepPure, SX.stepNew, SX.stepStore, SX.stepKeep, SX.guardIx, SX.evOp, SX.opd, SX.opds, SX.optOpd, SX.look, SX.putS, SX.gobs, SX.AllP, SX.leave, SX.lookC, SX.lookB, SX.lookT, SX.lookN, SX.findK, SX.evBuiltin, SX.ints, SX.foldI, SX.evBin, SX.evInt, SX.evStr, SX.evEq, SX.arith, SX.evLoad, SX.shapeUp, SX.evFieldAddr, SX.evField, SX.evIndexAddr, SX.evIndex, SX.evFill, SX.evBuild, SX.szs, SX.cellsV, SX.evNew, SX.evStore, SX.spliceL, SX.SV.cells, SX.evConv, SX.evSlice, SX.bnd, SX.evNil, SX.evUn, SX.evPick, SX.pickOpd, SX.popTo, SX.cnd, SX.env0, SX.TD.isAgg, SX.TD.isIface, SX.tails, SX.NotAgg, SX.evLookup, SX.evConvH, SX.evPtrEq, SX.isCells, SX.thaw, SX.frz, SX.fixB, SX.rootIx, SX.Froz, SX.frzStep, SX.fork, Go.Value.cells, Go.undef, cfg21]
      refine ⟨by (unfold SX.Ob; first | trivial | omega | ((try simp only [SX.inK]); (try simp [SX.den, SX.IsU8, SX.AllP, *]); (try omega))), ?_⟩
      intro a8 w8 hr8' _
      have hr8 := hr7.unbase hr8'
      have hs : joinStep [] x = [x] := by simp [joinStep]
      exact post_rnd (L.length - (k + 1)) (by omega) ⟨k + 1, [x], V7, rfl, by omega, by rw [← hs]; exact hj, by simpa using hM, by simp, hO7.keep hr8'.keeps (by simp [frameAt, mutB]), hr8.re (by simp [envTo, SX.look, den]) trivial rfl rfl⟩
    · obtain ⟨b', N, cap', u', row, hP', hv', hc0, hc1, hc2, hrep', hrow⟩ := hO.opn (show q < out.length by omega)
      cases hv'
      obtain ⟨y, hy⟩ : ∃ y, nth ext0 out q = y := ⟨_, rfl⟩
      have hMy : May y := hy ▸ hmay _ (nth_mem (by omega))
      have hrq : row q = [.v (.int .i64 y.lba), .v (.int .i64 y.n), .v (.int .i64 y.ver), .v (.int .i64 y.zone), .v (.int .i64 y.off)] := by rw [hrow q (by omega), hy]; rfl
      have hqN : q < N := by omega
      have h5 := ((hr4.top 10 (.sl 0 b o0 0 L.length cp 5) rfl (by simp [den])).top 3 (.sl 1 b' 0 0 out.length cap' 5) rfl (by simp [den])).see [(b, false, .arr o0 L.length (fun j => extC (nth ext0 L j)) 5 u fz), (b', true, .arr 0 N row 5 u' (0, 0))] ⟨⟨hrep2, by simp, by simp; omega⟩, ⟨hrep', fun _ => .inl hP', by simp⟩, trivial⟩
      refine seg cfg21_ok mixed PanicFree.body 1000 [true] [(21, true)] h5.rebase (by first | trivial | exact HpRep.nil | assumption) (by kernel_rfl) fun s_ hs_ => ?_
      simp (maxSteps := 10000000) [SX.vc, SX.stop, SX.contS, SX.contB, SX.contW, SX.contR, SX.contD, SX.sxStep, SX.stepPure, SX.stepNew, SX.stepStore, SX.stepKeep, SX.guardIx, SX.evOp, SX.opd, SX.opds, SX.optOpd, SX.look, SX.putS, SX.gobs, SX.AllP, SX.leave, SX.lookC, SX.lookB, SX.lookT, SX.lookN, SX.findK, SX.evBuiltin, SX.ints, SX.foldI, SX.evBin, SX.evInt, SX.evStr, SX.evEq, SX.arith, SX.evLoad, SX.shapeUp, SX.evFieldAddr, SX.evField, SX.evIndexAddr, SX.evIndex, SX.evFill, SX.evBuild, SX.szs, SX.cellsV, SX.evNew, SX.evStore, SX.spliceL, SX.SV.cells, SX.evConv, SX.evSlice, SX.bnd, SX.evNil, SX.evUn, SX.evPick, SX.pickOpd, SX.popTo, SX.cnd, SX.env0, SX.TD.isAgg, SX.TD.isIface, SX.tails, SX.NotAgg, SX.evLookup, SX.evConvH, SX.evPtrEq, SX.isCells, SX.thaw, SX.frz, SX.fixB, SX.rootIx, SX.Froz, SX.frzStep, SX.fork, Go.Value.cells, Go.undef, cfg21, extC, hx, hq, hrq]
      refine ⟨by (unfold SX.Ob; first | trivial | omega | ((try simp only [SX.inK]); (try simp [SX.den, SX.IsU8, SX.AllP, *]); (try omega))), ?_⟩
      intro a6 w6 hr6 ht6
      refine post_callD 32 [.ag (extC y), .ag (extC x)] hr6 rfl (by first | exact wanted_none rfl | exact wanted_zero (hr6.env.same rfl rfl rfl rfl) rfl (by simp)) rfl (callable 32 Try.func32) (goes_ok w6 y x hMy.sm hM.sm (hMy.sum hM)) ?_
      rintro e7 w7 ⟨rfl, hb7⟩
      have ht7 := HpRep_below ht6 hb7
      refine ⟨_, rfl, ht7, ?_⟩
      have hr7 := hr6.ret hb7 27 (.v (.bool (decide (Goes y x)))) rfl _ (hr6.all.below hb7) (by simp) rfl
      have hst : nth ext0 out (out.length - 1) = y := by rw [hq]; exact hy
      have hsum := hMy.sum hM
      unfold Sm at hsum
      by_cases hg : Goes y x
      · refine seg cfg21_ok mixed PanicFree.body 1000 [true] [(21, true)] hr7 (by first | trivial | exact HpRep.nil | assumption) (by kernel_rfl) fun s_ hs_ => ?_
        simp (maxSteps := 10000000) [SX.vc, SX.stop, SX.contS, SX.contB, SX.contW, SX.contR, SX.contD, SX.sxStep, SX.stepPure, SX.stepNew, SX.stepStore, SX.stepKeep, SX.guardIx, SX.evOp, SX.opd, SX.opds, SX.optOpd, SX.look, SX.putS, SX.gobs, SX.AllP, SX.leave, SX.lookC, SX.lookB, SX.lookT, SX.lookN, SX.findK, SX.evBuiltin, SX.ints, SX.foldI, SX.evBin, SX.evInt, SX.evStr, SX.evEq, SX.arith, SX.evLoad, SX.shapeUp, SX.evFieldAddr, SX.evField, SX.evIndexAddr, SX.evIndex, SX.evFill, SX.evBuild, SX.szs, SX.cellsV, SX.evNew, SX.evStore, SX.spliceL, SX.SV.cells, SX.evConv, SX.evSlice, SX.bnd, SX.evNil, SX.evUn, SX.evPick, SX.pickOpd, SX.popTo, SX.cnd, SX.env0, SX.TD.isAgg, SX.TD.isIface, SX.tails, SX.NotAgg, SX.evLookup, SX.evConvH, SX.evPtrEq, SX.isCells, SX.thaw, SX.frz, SX.fixB, SX.rootIx, SX.Froz, SX.frzStep, SX.fork, Go.Value.cells, Go.undef, cfg21, hg, hrq]
        refine ⟨by (unfold SX.Ob; first | trivial | omega | ((try simp only [SX.inK]); (try simp [SX.den, SX.IsU8, SX.AllP, *]); (try omega))), ?_⟩
        intro a8 w8 hr8' _
        have hr8 := h5.unbase hr8'
        have hs : joinStep out x = out.set q { y with n := y.n + x.n } := by
          simp only [joinStep, hst]
          rw [if_pos ⟨by omega, hg⟩, hq]
          rfl
        have hO8 : OwE (fun z => w.heap.size ≤ z) w8 (.slice (some ⟨b', 0, none⟩) (q + 1) cap') (out.set q { y with n := y.n + x.n }) := .inr ⟨b', N, cap', u', _, hP', by simp [hq], hc0, by simpa using hc1, hc2, hr8.all.2.1.1, fun j hj => (by
          simp only [List.length_set] at hj
          unfold setRow
          by_cases hjq : j = q
          · subst hjq
            rw [if_pos rfl, nth_lt (by simpa using hj)]
            simp [extC]
          · rw [if_neg hjq, hrow j hj, nth_lt hj, nth_lt (by simpa using hj), List.getElem_set_ne (by omega)])⟩
        exact post_rnd (L.length - (k + 1)) (by omega) ⟨k + 1, _, _, rfl, by omega, by rw [← hs]; exact hj, fun z hz => (by
          rcases List.mem_or_eq_of_mem_set hz with h | h
          · exact hmay z h
          · rw [h]; exact hg.may hMy hM), by simp; omega, hO8, hr8.re (by simp [envTo, SX.look, den]) trivial rfl rfl⟩
      · refine seg cfg21_ok mixed PanicFree.body 1000 [false] [(21, true)] hr7 (by first | trivial | exact HpRep.nil | assumption) (by kernel_rfl) fun s_ hs_ => ?_
        simp (maxSteps := 10000000) [SX.vc, SX.stop, SX.contS, SX.contB, SX.contW, SX.contR, SX.contD, SX.sxStep, SX.stepPure, SX.stepNew, SX.stepStore, SX.stepKeep, SX.guardIx, SX.evOp, SX.opd, SX.opds, SX.optOpd, SX.look, SX.putS, SX.gobs, SX.AllP, SX.leave, SX.lookC, SX.lookB, SX.lookT, SX.lookN, SX.findK, SX.evBuiltin, SX.ints, SX.foldI, SX.evBin, SX.evInt, SX.evStr, SX.evEq, SX.arith, SX.evLoad, SX.shapeUp, SX.evFieldAddr, SX.evField, SX.evIndexAddr, SX.evIndex, SX.evFill, SX.evBuild, SX.szs, SX.cellsV, SX.evNew, SX.evStore, SX.spliceL, SX.SV.cells, SX.evConv, SX.evSlice, SX.bnd, SX.evNil, SX.evUn, SX.evPick, SX.pickOpd, SX.popTo, SX.cnd, SX.env0, SX.TD.isAgg, SX.TD.isIface, SX.tails, SX.NotAgg, SX.evLookup, SX.evConvH, SX.evPtrEq, SX.isCells, SX.thaw, SX.frz, SX.fixB, SX.rootIx, SX.Froz, SX.frzStep, SX.fork, Go.Value.cells, Go.undef, cfg21, hg]
        refine ⟨by (unfold SX.Ob; first | trivial | omega | ((try simp only [SX.inK]); (try simp [SX.den, SX.IsU8, SX.AllP, *]); (try omega))), ?_⟩
        intro a8 w8 hr8' _
        have hr8 := h5.unbase hr8'
        have z8 : w.heap.size ≤ w8.heap.size := hr8.keeps.size
        have hs : joinStep out x = out ++ [x] := by
          simp only [joinStep, hst]
          rw [if_neg fun h => hg h.2]
        have hO8 : OwE (fun z => w.heap.size ≤ z) w8 (.slice (some ⟨b', 0, none⟩) (q + 1) cap') out := .inr ⟨b', N, cap', u', row, hP', by rw [hq], hc0, hc1, hc2, hr8.all.2.1.1, hrow⟩
        refine post_app (C := cfg21) cfg21_ok hr8 (by first | exact wanted_none rfl | exact wanted_zero (hr8.env.same rfl rfl rfl rfl) rfl (by simp)) rfl (by simp) rfl rfl rfl rfl rfl rfl rfl rfl rfl (by decide) (flatE _) (by (try simp only [List.length_append, List.length_cons, List.length_nil, List.length_map, List.length_take]); omega) (fun x hx => Nat.le_trans z8 hx) hO8 (RdS.lit (x := x) hr8.all.2.2.2.1.1 (by simp [extC])) [] (fun _ _ _ _ => trivial) (fun x hx => .inl hx) fun V9 a9 w9 B9 hO9 hB9 hk9 hr9 => ?_
        refine seg cfg21_ok mixed PanicFree.body 1000 [] [] hr9.rebase (by first | trivial | exact HpRep.nil | assumption) (by kernel_rfl) fun s_ hs_ => ?_
        simp (maxSteps := 10000000) [SX.vc, SX.stop, SX.contS, SX.contB, SX.contW, SX.contR, SX.contD, SX.sxStep, SX.stepPure, SX.stepNew, SX.stepStore, SX.stepKeep, SX.guardIx, SX.evOp, SX.opd, SX.opds, SX.optOpd, SX.look, SX.putS, SX.gobs, SX.AllP, SX.leave, SX.lookC, SX.lookB, SX.lookT, SX.lookN, SX.findK, SX.evBuiltin, SX.ints, SX.foldI, SX.evBin, SX.evInt, SX.evStr, SX.evEq, SX.arith, SX.evLoad, SX.shapeUp, SX.evFieldAddr, SX.evField, SX.evIndexAddr, SX.evIndex, SX.evFill, SX.evBuild, SX.szs, SX.cellsV, SX.evNew, SX.evStore, SX.spliceL, SX.SV.cells, SX.evConv, SX.evSlice, SX.bnd, SX.evNil, SX.evUn, SX.evPick, SX.pickOpd, SX.popTo, SX.cnd, SX.env0, SX.TD.isAgg, SX.TD.isIface, SX.tails, SX.NotAgg, SX.evLookup, SX.evConvH, SX.evPtrEq, SX.isCells, SX.thaw, SX.frz, SX.fixB, SX.rootIx, SX.Froz, SX.frzStep, SX.fork, Go.Value.cells, Go.undef, cfg21]
        refine ⟨by (unfold SX.Ob; first | trivial | omega | ((try simp only [SX.inK]); (try simp [SX.den, SX.IsU8, SX.AllP, *]); (try omega))), ?_⟩
        intro a10 w10 hr10' _
        have hr10 := hr9.unbase hr10'
        exact post_rnd (L.length - (k + 1)) (by omega) ⟨k + 1, _, V9, rfl, by omega, by rw [← hs]; exact hj, fun z hz => (by
          rcases List.mem_append.1 hz with h | h
          · exact hmay z h
          · rw [List.mem_singleton.1 h]; exact hM), by simp; omega, hO9.keep hr10'.keeps (by simp [frameAt, mutB]), hr10.re (by simp [envTo, SX.look, den]) trivial rfl rfl⟩
  · obtain rfl : k = L.length := by omega
    refine seg cfg21_ok mixed PanicFree.body 1000 [false] [] hr4.rebase (by first | trivial | exact HpRep.nil | assumption) (by kernel_rfl) fun s_ hs_ => ?_
    simp (maxSteps := 10000000) [SX.vc, SX.stop, SX.contS, SX.contB, SX.contW, SX.contR, SX.contD, SX.sxStep, SX.stepPure, SX.stepNew, SX.stepStore, SX.stepKeep, SX.guardIx, SX.evOp, SX.opd, SX.opds, SX.optOpd, SX.look, SX.putS, SX.gobs, SX.AllP, SX.leave, SX.lookC, SX.lookB, SX.lookT, SX.lookN, SX.findK, SX.evBuiltin, SX.ints, SX.foldI, SX.evBin, SX.evInt, SX.evStr, SX.evEq, SX.arith, SX.evLoad, SX.shapeUp, SX.evFieldAddr, SX.evField, SX.evIndexAddr, SX.evIndex, SX.evFill, SX.evBuild, SX.szs, SX.cellsV, SX.evNew, SX.evStore, SX.spliceL, SX.SV.cells, SX.evConv, SX.evSlice, SX.bnd, SX.evNil, SX.evUn, SX.evPick, SX.pickOpd, SX.popTo, SX.cnd, SX.env0, SX.TD.isAgg, SX.TD.isIface, SX.tails, SX.NotAgg, SX.evLookup, SX.evConvH, SX.evPtrEq, SX.isCells, SX.thaw, SX.frz, SX.fixB, SX.rootIx, SX.Froz, SX.frzStep, SX.fork, Go.Value.cells, Go.undef, cfg21]
    refine ⟨by (unfold SX.Ob; first | trivial | omega | ((try simp only [SX.inK]); (try simp [SX.den, SX.IsU8, SX.AllP, *]); (try omega))), ?_⟩
    intro a6 w6 hr6' _
    have hr6 := hr4.unbase hr6'
    refine post_retn (end1 hr6 rfl rfl ⟨_, rfl, ?_, hr6.keeps.toBelow⟩).1
    rw [joinE, if_pos hC, ← hj, List.drop_length, joinGo]
    exact hO.keep hr6'.keeps (by simp [frameAt, mutB])
end Go.Proofs
