/- Spans: Owned; whose; edges. -/
import Derived.Test.YtpgknabmpghcoaaPE
import Derived.Test.YtpgknabmpghcoaaPO
import Derived.Test.YtpgknabmpghcoaaPS
namespace Go.Proofs
set_option linter.unusedVariables false
set_option linter.unusedSimpArgs false
open Go Go.SX Go.RowKit

/-- How many blocks an owner has. -/
def ownedS (o : Int) : List Spn → Int
  | [] => 0
  | s :: r => (if s.ow = o then s.to - s.fr else 0) + ownedS o r
theorem ownedS_append (o : Int) : ∀ A B : List Spn, ownedS o (A ++ B) = ownedS o A + ownedS o B
  | [], B => by simp [ownedS]
  | s :: r, B => by simp only [List.cons_append, ownedS, ownedS_append o r B]; omega
theorem ownedS_bound (o : Int) : ∀ {L : List Spn} {last : Int}, ChkS last L → 0 ≤ ownedS o L ∧ ownedS o L ≤ endS last L - last
  | [], last, _ => by simp [ownedS, endS]
  | s :: r, last, h => by
    obtain ⟨i1, i2⟩ := ownedS_bound o h.2.2.2
    have h1 := h.1
    have h2 := h.2.1
    simp only [ownedS, endS]
    split <;> omega
theorem ownedS_take {o : Int} {L : List Spn} {last : Int} (h : ChkS last L) (k : Nat) : 0 ≤ ownedS o (L.take k) ∧ ownedS o (L.take k) ≤ endS last L - last := by
  have e := List.take_append_drop k L
  rw [← e, chkS_append] at h
  have h1 := ownedS_bound o h.1
  have h2 := ownedS_bound o h.2
  have h3 := endS_le _ _ h.2
  have h4 : endS last L = endS (endS last (L.take k)) (L.drop k) := by rw [← endS_append, e]
  omega

def OwLoop (w : World) (v : Value) (L : List Spn) (o : Int) (m : Nat) (a : Act) (w' : World) : Prop :=
  ∃ k : Nat, m = L.length - k ∧ k ≤ L.length ∧ RepX (frame0 w) ⟨[(10, 0, .v (.int .i64 k)), (9, 0, .v (.int .i64 L.length)), (8, 0, .v v), (0, 0, .v v), (1, 0, .v (.int .i64 o)), (5, 0, .v (.int .i64 (ownedS o (L.take k)))), (4, 0, .v (.int .i64 0))], [], 0, 0, 30, [], [], []⟩ a w'

set_option maxRecDepth 100000 in
set_option maxHeartbeats 8000000 in
/-- Owned. -/
theorem owned_ok {P : Nat → Prop} (w : World) (v : Value) (L : List Spn) (o : Int) (hL : RdP P w v L) (hn : L.length ≤ 1000000) (hC : ChkP L) : Calls Try.prog 18 (denL [.v v, .v (.int .i64 o)]).toArray w (Ret w (.v (.int .i64 (ownedS o L)))) := by
  obtain ⟨ad, cp, rfl⟩ := hL.slice
  refine enter (F := frame0 w) Try.func18 rfl [.v (.slice ad L.length cp), .v (.int .i64 o)] [] (by simp [Try.f18]) trivial (keeps0 w) fun a hr => ?_
  refine seg cfg18_ok mixed PanicFree.body 1000 [] [] hr (by first | trivial | exact HpRep.nil | assumption) (by kernel_rfl) fun s_ hs_ => ?_
  simp (maxSteps := 10000000) [SX.vc, SX.stop, SX.contS, SX.contB, SX.contW, SX.contR, SX.contD, SX.sxStep, SX.stepPure, SX.stepNew, SX.stepStore, SX.stepKeep, SX.guardIx, SX.evOp, SX.opd, SX.opds, SX.optOpd, SX.look, SX.putS, SX.gobs, SX.AllP, SX.leave, SX.lookC, SX.lookB, SX.lookT, SX.lookN, SX.findK, SX.evBuiltin, SX.ints, SX.foldI, SX.evBin, SX.evInt, SX.evStr, SX.evEq, SX.arith, SX.evLoad, SX.shapeUp, SX.evFieldAddr, SX.evField, SX.evIndexAddr, SX.evIndex, SX.evFill, SX.evBuild, SX.szs, SX.cellsV, SX.evNew, SX.evStore, SX.spliceL, SX.SV.cells, SX.evConv, SX.evSlice, SX.bnd, SX.evNil, SX.evUn, SX.evPick, SX.pickOpd, SX.popTo, SX.cnd, SX.env0, SX.TD.isAgg, SX.TD.isIface, SX.tails, SX.NotAgg, SX.evLookup, SX.evConvH, SX.evPtrEq, SX.isCells, SX.thaw, SX.frz, SX.fixB, SX.rootIx, SX.Froz, SX.frzStep, SX.fork, Go.Value.cells, Go.undef, cfg18, Try.f18]
  refine ⟨by (unfold SX.Ob; first | trivial | omega | ((try simp only [SX.inK]); (try simp [SX.den, SX.IsU8, SX.AllP, *]); (try omega))), ?_⟩
  intro a1 w1 hr1 _
  refine post_loop (OwLoop w (.slice ad L.length cp) L o) L.length ⟨0, rfl, by omega, hr1.re (by simp [envTo, SX.look, den, ownedS]) trivial rfl rfl⟩ ?_
  rintro m a2 w2 ⟨k, rfl, hk, hr2⟩
  by_cases hlt : k < L.length
  · obtain ⟨b, o0, cap, u, fz, hP, hv, hrep⟩ := hL.opn hlt
    cases hv
    have hrep2 := SO.rep_same hrep (hr2.keeps.toBelow.block _ (SO.rep_lt hrep))
    obtain ⟨x, hx⟩ : ∃ x, nth spn0 L k = x := ⟨_, rfl⟩
    have hcx := chkS_nth hC.1 hlt
    have hend := (chkS_nth hC.1 hlt).2.1
    obtain ⟨t1, t2⟩ := ownedS_take (o := o) hC.1 k
    obtain ⟨t3, t4⟩ := ownedS_take (o := o) hC.1 (k + 1)
    have hst : ownedS o (L.take (k + 1)) = ownedS o (L.take k) + (if x.ow = o then x.to - x.fr else 0) := by
      rw [take_nth (d := spn0) hlt, ownedS_append, hx]
      simp [ownedS]
    rw [hx] at hcx hend
    have he := hC.2.2
    obtain ⟨q, hq⟩ : ∃ q, ownedS o (L.take k) = q := ⟨_, rfl⟩
    rw [hq] at hr2 t1 t2 hst
    have h2 := (hr2.top 8 (.sl 0 b o0 0 L.length cp 4) rfl (by simp [den])).see _ (HpAll.one hrep2)
    by_cases how : x.ow = o
    · rw [if_pos how] at hst
      have hto : x.to - x.fr ≤ 1099511627776 := by omega
      have hsum : q + (x.to - x.fr) ≤ 1099511627776 := by omega
      have hi1 : inK x.to := by
        have h3 := ownedS_bound o hC.1
        have h5 : x.to ≤ endS 0 L := by
          rcases Int.lt_or_le (endS 0 L) x.to with h' | h'
          · exfalso
            have := hasS_high L 0 (b := x.to - 1) (t := (x.ow, x.ep)) hC.1 ⟨x, hx ▸ nth_mem hlt, ⟨by omega, by omega⟩, rfl⟩
            omega
          · exact h'
        unfold inK
        omega
      unfold inK at hi1
      refine seg cfg18_ok mixed PanicFree.body 1000 [true, true] [] h2 (by first | trivial | exact HpRep.nil | assumption) (by kernel_rfl) fun s_ hs_ => ?_
      simp (maxSteps := 10000000) [SX.vc, SX.stop, SX.contS, SX.contB, SX.contW, SX.contR, SX.contD, SX.sxStep, SX.stepPure, SX.stepNew, SX.stepStore, SX.stepKeep, SX.guardIx, SX.evOp, SX.opd, SX.opds, SX.optOpd, SX.look, SX.putS, SX.gobs, SX.AllP, SX.leave, SX.lookC, SX.lookB, SX.lookT, SX.lookN, SX.findK, SX.evBuiltin, SX.ints, SX.foldI, SX.evBin, SX.evInt, SX.evStr, SX.evEq, SX.arith, SX.evLoad, SX.shapeUp, SX.evFieldAddr, SX.evField, SX.evIndexAddr, SX.evIndex, SX.evFill, SX.evBuild, SX.szs, SX.cellsV, SX.evNew, SX.evStore, SX.spliceL, SX.SV.cells, SX.evConv, SX.evSlice, SX.bnd, SX.evNil, SX.evUn, SX.evPick, SX.pickOpd, SX.popTo, SX.cnd, SX.env0, SX.TD.isAgg, SX.TD.isIface, SX.tails, SX.NotAgg, SX.evLookup, SX.evConvH, SX.evPtrEq, SX.isCells, SX.thaw, SX.frz, SX.fixB, SX.rootIx, SX.Froz, SX.frzStep, SX.fork, Go.Value.cells, Go.undef, cfg18, spnC, hx, how]
      refine ⟨by (unfold SX.Ob; first | trivial | omega | ((try simp only [SX.inK]); (try simp [SX.den, SX.IsU8, SX.AllP, *]); (try omega))), ?_⟩
      intro a3 w3 hr3 _
      exact post_rnd (L.length - (k + 1)) (by omega) ⟨k + 1, rfl, hlt, hr3.re (by simp [envTo, SX.look, den, hst]) trivial rfl rfl⟩
    · rw [if_neg how] at hst
      refine seg cfg18_ok mixed PanicFree.body 1000 [true, false] [] h2 (by first | trivial | exact HpRep.nil | assumption) (by kernel_rfl) fun s_ hs_ => ?_
      simp (maxSteps := 10000000) [SX.vc, SX.stop, SX.contS, SX.contB, SX.contW, SX.contR, SX.contD, SX.sxStep, SX.stepPure, SX.stepNew, SX.stepStore, SX.stepKeep, SX.guardIx, SX.evOp, SX.opd, SX.opds, SX.optOpd, SX.look, SX.putS, SX.gobs, SX.AllP, SX.leave, SX.lookC, SX.lookB, SX.lookT, SX.lookN, SX.findK, SX.evBuiltin, SX.ints, SX.foldI, SX.evBin, SX.evInt, SX.evStr, SX.evEq, SX.arith, SX.evLoad, SX.shapeUp, SX.evFieldAddr, SX.evField, SX.evIndexAddr, SX.evIndex, SX.evFill, SX.evBuild, SX.szs, SX.cellsV, SX.evNew, SX.evStore, SX.spliceL, SX.SV.cells, SX.evConv, SX.evSlice, SX.bnd, SX.evNil, SX.evUn, SX.evPick, SX.pickOpd, SX.popTo, SX.cnd, SX.env0, SX.TD.isAgg, SX.TD.isIface, SX.tails, SX.NotAgg, SX.evLookup, SX.evConvH, SX.evPtrEq, SX.isCells, SX.thaw, SX.frz, SX.fixB, SX.rootIx, SX.Froz, SX.frzStep, SX.fork, Go.Value.cells, Go.undef, cfg18, spnC, hx, how]
      refine ⟨by (unfold SX.Ob; first | trivial | omega | ((try simp only [SX.inK]); (try simp [SX.den, SX.IsU8, SX.AllP, *]); (try omega))), ?_⟩
      intro a3 w3 hr3 _
      exact post_rnd (L.length - (k + 1)) (by omega) ⟨k + 1, rfl, hlt, hr3.re (by simp [envTo, SX.look, den, hst]) trivial rfl rfl⟩
  · obtain rfl : k = L.length := by omega
    rw [List.take_length] at hr2
    refine seg cfg18_ok mixed PanicFree.body 1000 [false] [] hr2 (by first | trivial | exact HpRep.nil | assumption) (by kernel_rfl) fun s_ hs_ => ?_
    simp (maxSteps := 10000000) [SX.vc, SX.stop, SX.contS, SX.contB, SX.contW, SX.contR, SX.contD, SX.sxStep, SX.stepPure, SX.stepNew, SX.stepStore, SX.stepKeep, SX.guardIx, SX.evOp, SX.opd, SX.opds, SX.optOpd, SX.look, SX.putS, SX.gobs, SX.AllP, SX.leave, SX.lookC, SX.lookB, SX.lookT, SX.lookN, SX.findK, SX.evBuiltin, SX.ints, SX.foldI, SX.evBin, SX.evInt, SX.evStr, SX.evEq, SX.arith, SX.evLoad, SX.shapeUp, SX.evFieldAddr, SX.evField, SX.evIndexAddr, SX.evIndex, SX.evFill, SX.evBuild, SX.szs, SX.cellsV, SX.evNew, SX.evStore, SX.spliceL, SX.SV.cells, SX.evConv, SX.evSlice, SX.bnd, SX.evNil, SX.evUn, SX.evPick, SX.pickOpd, SX.popTo, SX.cnd, SX.env0, SX.TD.isAgg, SX.TD.isIface, SX.tails, SX.NotAgg, SX.evLookup, SX.evConvH, SX.evPtrEq, SX.isCells, SX.thaw, SX.frz, SX.fixB, SX.rootIx, SX.Froz, SX.frzStep, SX.fork, Go.Value.cells, Go.undef, cfg18]
    refine ⟨by (unfold SX.Ob; first | trivial | omega | ((try simp only [SX.inK]); (try simp [SX.den, SX.IsU8, SX.AllP, *]); (try omega))), ?_⟩
    intro a3 w3 hr3 _
    have hc : chkP L = 0 := if_pos hC
    refine post_call 30 [.v (.slice ad L.length cp)] hr3 (by first | exact wanted_none rfl | exact wanted_zero (hr3.env.same rfl rfl rfl rfl) rfl (by simp)) rfl (callable 30 Try.func30) (check_ok w3 _ L (hL.below hr3.keeps.toBelow) (by omega)) ?_
    rintro e4 w4 ⟨rfl, hb4⟩
    refine ⟨_, rfl, ?_⟩
    have h4 := hr3.ret hb4 27 (.v (.int .i64 (chkP L))) rfl _ (hr3.all.below hb4) (by simp) rfl
    refine seg cfg18_ok mixed PanicFree.body 1000 [false] [] h4 (by first | trivial | exact HpRep.nil | assumption) (by kernel_rfl) fun s_ hs_ => ?_
    simp (maxSteps := 10000000) [SX.vc, SX.stop, SX.contS, SX.contB, SX.contW, SX.contR, SX.contD, SX.sxStep, SX.stepPure, SX.stepNew, SX.stepStore, SX.stepKeep, SX.guardIx, SX.evOp, SX.opd, SX.opds, SX.optOpd, SX.look, SX.putS, SX.gobs, SX.AllP, SX.leave, SX.lookC, SX.lookB, SX.lookT, SX.lookN, SX.findK, SX.evBuiltin, SX.ints, SX.foldI, SX.evBin, SX.evInt, SX.evStr, SX.evEq, SX.arith, SX.evLoad, SX.shapeUp, SX.evFieldAddr, SX.evField, SX.evIndexAddr, SX.evIndex, SX.evFill, SX.evBuild, SX.szs, SX.cellsV, SX.evNew, SX.evStore, SX.spliceL, SX.SV.cells, SX.evConv, SX.evSlice, SX.bnd, SX.evNil, SX.evUn, SX.evPick, SX.pickOpd, SX.popTo, SX.cnd, SX.env0, SX.TD.isAgg, SX.TD.isIface, SX.tails, SX.NotAgg, SX.evLookup, SX.evConvH, SX.evPtrEq, SX.isCells, SX.thaw, SX.frz, SX.fixB, SX.rootIx, SX.Froz, SX.frzStep, SX.fork, Go.Value.cells, Go.undef, cfg18, hc]
    refine ⟨by (unfold SX.Ob; first | trivial | omega | ((try simp only [SX.inK]); (try simp [SX.den, SX.IsU8, SX.AllP, *]); (try omega))), ?_⟩
    intro a5 w5 hr5 _
    exact post_retn (end1 hr5 rfl rfl ⟨rfl, hr5.keeps.toBelow⟩).1

def WhoR (w : World) (L : List Spn) (b : Int) (e : Ending) (w' : World) : Prop := ∃ u : Int × Int, HasS L b u ∧ e = .returned (den (.tu [.v (.int .i64 u.1), .v (.int .i64 u.2)])) ∧ Below w.heap.size w w'
def FindH (w : World) (L : List Spn) (b : Int) (e : Ending) (w' : World) : Prop := ∃ s : Spn, HasS L b (s.ow, s.ep) ∧ e = .returned (den (.tu [.ag (spnC s), .v (.int .i64 0)])) ∧ Below w.heap.size w w'

set_option maxRecDepth 100000 in
set_option maxHeartbeats 8000000 in
/-- whose. -/
theorem whose_ok {P : Nat → Prop} (w : World) (v : Value) (L : List Spn) (b : Int) (hL : RdP P w v L) (hn : L.length ≤ 1000000) (hC : ChkP L) (h0 : 0 ≤ b) (h1 : b < endS 0 L) : Calls Try.prog 16 (denL [.v v, .v (.int .i64 b)]).toArray w (WhoR w L b) := by
  refine enter (F := frame0 w) Try.func16 rfl [.v v, .v (.int .i64 b)] [] (by simp [Try.f16]) trivial (keeps0 w) fun a hr => ?_
  refine seg cfg16_ok mixed PanicFree.body 1000 [] [] hr (by first | trivial | exact HpRep.nil | assumption) (by kernel_rfl) fun s_ hs_ => ?_
  simp (maxSteps := 10000000) [SX.vc, SX.stop, SX.contS, SX.contB, SX.contW, SX.contR, SX.contD, SX.sxStep, SX.stepPure, SX.stepNew, SX.stepStore, SX.stepKeep, SX.guardIx, SX.evOp, SX.opd, SX.opds, SX.optOpd, SX.look, SX.putS, SX.gobs, SX.AllP, SX.leave, SX.lookC, SX.lookB, SX.lookT, SX.lookN, SX.findK, SX.evBuiltin, SX.ints, SX.foldI, SX.evBin, SX.evInt, SX.evStr, SX.evEq, SX.arith, SX.evLoad, SX.shapeUp, SX.evFieldAddr, SX.evField, SX.evIndexAddr, SX.evIndex, SX.evFill, SX.evBuild, SX.szs, SX.cellsV, SX.evNew, SX.evStore, SX.spliceL, SX.SV.cells, SX.evConv, SX.evSlice, SX.bnd, SX.evNil, SX.evUn, SX.evPick, SX.pickOpd, SX.popTo, SX.cnd, SX.env0, SX.TD.isAgg, SX.TD.isIface, SX.tails, SX.NotAgg, SX.evLookup, SX.evConvH, SX.evPtrEq, SX.isCells, SX.thaw, SX.frz, SX.fixB, SX.rootIx, SX.Froz, SX.frzStep, SX.fork, Go.Value.cells, Go.undef, cfg16, Try.f16]
  refine ⟨by (unfold SX.Ob; first | trivial | omega | ((try simp only [SX.inK]); (try simp [SX.den, SX.IsU8, SX.AllP, *]); (try omega))), ?_⟩
  intro a1 w1 hr1 _
  have hf : Calls Try.prog 23 (denL [.v v, .v (.int .i64 b)]).toArray w1 (FindH w1 L b) := (Find_ok w1 v L b (hL.below hr1.keeps.toBelow) (by omega)).mono fun e w' h => by
    rcases h with ⟨⟨_, k, hk, hin, he⟩ | ⟨h, _⟩, hb⟩
    · exact ⟨_, ⟨_, nth_mem hk, hin, rfl⟩, he, hb⟩
    · exfalso
      rcases h with h | h
      · exact h hC
      · obtain ⟨j, hj, hi⟩ := inS_some hC.1 h0 h1
        exact h j hj hi
  refine post_call 23 [.v v, .v (.int .i64 b)] hr1 (by first | exact wanted_none rfl | exact wanted_zero (hr1.env.same rfl rfl rfl rfl) rfl (by simp)) rfl (callable 23 Try.func23) (hf) ?_
  rintro e2 w2 ⟨s, hs, rfl, hb2⟩
  refine ⟨_, rfl, ?_⟩
  have h2 := hr1.ret hb2 11 (.tu [.ag (spnC s), .v (.int .i64 0)]) rfl _ (hr1.all.below hb2) (by simp) rfl
  refine seg cfg16_ok mixed PanicFree.body 1000 [] [] h2 (by first | trivial | exact HpRep.nil | assumption) (by kernel_rfl) fun s_ hs_ => ?_
  simp (maxSteps := 10000000) [SX.vc, SX.stop, SX.contS, SX.contB, SX.contW, SX.contR, SX.contD, SX.sxStep, SX.stepPure, SX.stepNew, SX.stepStore, SX.stepKeep, SX.guardIx, SX.evOp, SX.opd, SX.opds, SX.optOpd, SX.look, SX.putS, SX.gobs, SX.AllP, SX.leave, SX.lookC, SX.lookB, SX.lookT, SX.lookN, SX.findK, SX.evBuiltin, SX.ints, SX.foldI, SX.evBin, SX.evInt, SX.evStr, SX.evEq, SX.arith, SX.evLoad, SX.shapeUp, SX.evFieldAddr, SX.evField, SX.evIndexAddr, SX.evIndex, SX.evFill, SX.evBuild, SX.szs, SX.cellsV, SX.evNew, SX.evStore, SX.spliceL, SX.SV.cells, SX.evConv, SX.evSlice, SX.bnd, SX.evNil, SX.evUn, SX.evPick, SX.pickOpd, SX.popTo, SX.cnd, SX.env0, SX.TD.isAgg, SX.TD.isIface, SX.tails, SX.NotAgg, SX.evLookup, SX.evConvH, SX.evPtrEq, SX.isCells, SX.thaw, SX.frz, SX.fixB, SX.rootIx, SX.Froz, SX.frzStep, SX.fork, Go.Value.cells, Go.undef, cfg16, spnC]
  refine ⟨by (unfold SX.Ob; first | trivial | omega | ((try simp only [SX.inK]); (try simp [SX.den, SX.IsU8, SX.AllP, *]); (try omega))), ?_⟩
  intro a3 w3 hr3 _
  exact post_retn (end2 hr3 rfl rfl rfl ⟨_, hs, rfl, hr3.keeps.toBelow⟩).1
end Go.Proofs
