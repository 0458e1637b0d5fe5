/- Requests: Forget. -/
import Derived.Test.YtffooiccklfhlaaNI
namespace Go.Proofs
set_option linter.unusedVariables false
set_option linter.unusedSimpArgs false
set_option linter.unusedSectionVars false
open Go Go.SX Go.RowKit

theorem Below.more {w0 w w' : World} {M : List Nat} (h : Below w0.heap.size w0 w) (hk : KeepsTo w M w') (hM : ∀ x ∈ M, w0.heap.size ≤ x) : Below w0.heap.size w0 w' :=
  ⟨hk.os.trans h.os, hk.tape.trans h.tape, hk.output.trans h.output, Nat.le_trans h.size hk.size, fun k hk' => (hk.block k (Nat.lt_of_lt_of_le hk' h.size) (fun hm => absurd (hM k hm) (by omega))).trans (h.block k hk')⟩

def NumLoop (w : World) (v : Value) (L : List Int) (x : Int) (m : Nat) (a : Act) (w' : World) : Prop :=
  ∃ k : Nat, m = L.length - k ∧ k ≤ L.length ∧ (∀ j, j < k → nth 0 L j ≠ x) ∧ RepX (frame0 w) ⟨[(8, 0, .v (.int .i64 k)), (7, 0, .v (.int .i64 L.length)), (0, 0, .v v), (1, 0, .v (.int .i64 x))], [], 0, 0, 19, [], [], []⟩ a w'

set_option maxRecDepth 100000 in
set_option maxHeartbeats 8000000 in
/-- Index of a number. -/
theorem num_ok {P : Nat → Prop} (w : World) (v : Value) (L : List Int) (x : Int) (hL : RdI P w v L) (hn : L.length ≤ 1000000000000000) : Calls Try.prog 43 (denL [.v v, .v (.int .i64 x)]).toArray w (fun e w' => (∃ k : Int, e = .returned (.int .i64 k) ∧ (0 ≤ k ↔ x ∈ L)) ∧ Below w.heap.size w w') := by
  obtain ⟨ad, cp, rfl⟩ := hL.slice
  refine enter (F := frame0 w) Try.func43 rfl [.v (.slice ad L.length cp), .v (.int .i64 x)] [] (by simp [Try.f43]) trivial (keeps0 w) fun a hr => ?_
  refine seg cfg43_ok mixed PanicFree.body 1000 [] [] hr (by first | trivial | exact HpRep.nil | assumption) (by kernel_rfl) fun s_ hs_ => ?_
  simp (maxSteps := 10000000) [SX.vc, SX.stop, SX.contS, SX.contB, SX.contW, SX.contR, SX.contD, SX.sxStep, SX.stepPure, SX.stepNew, SX.stepStore, SX.stepKeep, SX.guardIx, SX.evOp, SX.opd, SX.opds, SX.optOpd, SX.look, SX.putS, SX.gobs, SX.AllP, SX.leave, SX.lookC, SX.lookB, SX.lookT, SX.lookN, SX.findK, SX.evBuiltin, SX.ints, SX.foldI, SX.evBin, SX.evInt, SX.evStr, SX.evEq, SX.arith, SX.evLoad, SX.shapeUp, SX.evFieldAddr, SX.evField, SX.evIndexAddr, SX.evIndex, SX.evFill, SX.evBuild, SX.szs, SX.cellsV, SX.evNew, SX.evStore, SX.spliceL, SX.SV.cells, SX.evConv, SX.evSlice, SX.bnd, SX.evNil, SX.evUn, SX.evPick, SX.pickOpd, SX.popTo, SX.cnd, SX.env0, SX.TD.isAgg, SX.TD.isIface, SX.tails, SX.NotAgg, SX.evLookup, SX.evConvH, SX.evPtrEq, SX.isCells, SX.thaw, SX.frz, SX.fixB, SX.rootIx, SX.Froz, SX.frzStep, SX.fork, Go.Value.cells, Go.undef, cfg43, Try.f43]
  refine ⟨by (unfold SX.Ob; first | trivial | omega | ((try simp only [SX.inK]); (try simp [SX.den, SX.IsU8, SX.AllP, *]); (try omega))), ?_⟩
  intro a1 w1 hr1 _
  refine post_loop (NumLoop w (.slice ad L.length cp) L x) L.length ⟨0, rfl, by omega, by omega, hr1.re (by simp [envTo, SX.look]) trivial rfl rfl⟩ ?_
  rintro m a2 w2 ⟨k, rfl, hk, hs, hr2⟩
  by_cases hlt : k < L.length
  · obtain ⟨b, o0, cap, u, fz, hP, hv, hrep⟩ := hL.opn hlt
    cases hv
    have hrep2 := SO.rep_same hrep (hr2.keeps.toBelow.block _ (SO.rep_lt hrep))
    obtain ⟨y, hy⟩ : ∃ y, nth 0 L k = y := ⟨_, rfl⟩
    have h2 := (hr2.top 0 (.sl 0 b o0 0 L.length cp 1) rfl (by simp [den])).see _ (HpAll.one hrep2)
    by_cases hM : x = y
    · refine seg cfg43_ok mixed PanicFree.body 1000 [true, true] [] h2 (by first | trivial | exact HpRep.nil | assumption) (by kernel_rfl) fun s_ hs_ => ?_
      simp (maxSteps := 10000000) [SX.vc, SX.stop, SX.contS, SX.contB, SX.contW, SX.contR, SX.contD, SX.sxStep, SX.stepPure, SX.stepNew, SX.stepStore, SX.stepKeep, SX.guardIx, SX.evOp, SX.opd, SX.opds, SX.optOpd, SX.look, SX.putS, SX.gobs, SX.AllP, SX.leave, SX.lookC, SX.lookB, SX.lookT, SX.lookN, SX.findK, SX.evBuiltin, SX.ints, SX.foldI, SX.evBin, SX.evInt, SX.evStr, SX.evEq, SX.arith, SX.evLoad, SX.shapeUp, SX.evFieldAddr, SX.evField, SX.evIndexAddr, SX.evIndex, SX.evFill, SX.evBuild, SX.szs, SX.cellsV, SX.evNew, SX.evStore, SX.spliceL, SX.SV.cells, SX.evConv, SX.evSlice, SX.bnd, SX.evNil, SX.evUn, SX.evPick, SX.pickOpd, SX.popTo, SX.cnd, SX.env0, SX.TD.isAgg, SX.TD.isIface, SX.tails, SX.NotAgg, SX.evLookup, SX.evConvH, SX.evPtrEq, SX.isCells, SX.thaw, SX.frz, SX.fixB, SX.rootIx, SX.Froz, SX.frzStep, SX.fork, Go.Value.cells, Go.undef, cfg43, intC, hy, hM]
      refine ⟨by (unfold SX.Ob; first | trivial | omega | ((try simp only [SX.inK]); (try simp [SX.den, SX.IsU8, SX.AllP, *]); (try omega))), ?_⟩
      intro a5 w5 hr5 _
      exact post_retn (end1 hr5 rfl rfl ⟨⟨k, rfl, fun _ => by have h := nth_mem (d := (0 : Int)) hlt; rw [hy] at h; exact h, fun _ => by omega⟩, hr5.keeps.toBelow⟩).1
    · refine seg cfg43_ok mixed PanicFree.body 1000 [true, false] [] h2 (by first | trivial | exact HpRep.nil | assumption) (by kernel_rfl) fun s_ hs_ => ?_
      simp (maxSteps := 10000000) [SX.vc, SX.stop, SX.contS, SX.contB, SX.contW, SX.contR, SX.contD, SX.sxStep, SX.stepPure, SX.stepNew, SX.stepStore, SX.stepKeep, SX.guardIx, SX.evOp, SX.opd, SX.opds, SX.optOpd, SX.look, SX.putS, SX.gobs, SX.AllP, SX.leave, SX.lookC, SX.lookB, SX.lookT, SX.lookN, SX.findK, SX.evBuiltin, SX.ints, SX.foldI, SX.evBin, SX.evInt, SX.evStr, SX.evEq, SX.arith, SX.evLoad, SX.shapeUp, SX.evFieldAddr, SX.evField, SX.evIndexAddr, SX.evIndex, SX.evFill, SX.evBuild, SX.szs, SX.cellsV, SX.evNew, SX.evStore, SX.spliceL, SX.SV.cells, SX.evConv, SX.evSlice, SX.bnd, SX.evNil, SX.evUn, SX.evPick, SX.pickOpd, SX.popTo, SX.cnd, SX.env0, SX.TD.isAgg, SX.TD.isIface, SX.tails, SX.NotAgg, SX.evLookup, SX.evConvH, SX.evPtrEq, SX.isCells, SX.thaw, SX.frz, SX.fixB, SX.rootIx, SX.Froz, SX.frzStep, SX.fork, Go.Value.cells, Go.undef, cfg43, intC, hy, hM]
      refine ⟨by (unfold SX.Ob; first | trivial | omega | ((try simp only [SX.inK]); (try simp [SX.den, SX.IsU8, SX.AllP, *]); (try omega))), ?_⟩
      intro a5 w5 hr5 _
      exact post_rnd (L.length - (k + 1)) (by omega) ⟨k + 1, rfl, hlt, fun j hj => (by
        rcases Nat.lt_or_ge j k with h | h
        · exact hs j h
        · obtain rfl : j = k := by omega
          rw [hy]; exact fun e => hM e.symm), hr5.re (by simp [envTo, SX.look, den]) trivial rfl rfl⟩
  · obtain rfl : k = L.length := by omega
    refine seg cfg43_ok mixed PanicFree.body 1000 [false] [] hr2 (by first | trivial | exact HpRep.nil | assumption) (by kernel_rfl) fun s_ hs_ => ?_
    simp (maxSteps := 10000000) [SX.vc, SX.stop, SX.contS, SX.contB, SX.contW, SX.contR, SX.contD, SX.sxStep, SX.stepPure, SX.stepNew, SX.stepStore, SX.stepKeep, SX.guardIx, SX.evOp, SX.opd, SX.opds, SX.optOpd, SX.look, SX.putS, SX.gobs, SX.AllP, SX.leave, SX.lookC, SX.lookB, SX.lookT, SX.lookN, SX.findK, SX.evBuiltin, SX.ints, SX.foldI, SX.evBin, SX.evInt, SX.evStr, SX.evEq, SX.arith, SX.evLoad, SX.shapeUp, SX.evFieldAddr, SX.evField, SX.evIndexAddr, SX.evIndex, SX.evFill, SX.evBuild, SX.szs, SX.cellsV, SX.evNew, SX.evStore, SX.spliceL, SX.SV.cells, SX.evConv, SX.evSlice, SX.bnd, SX.evNil, SX.evUn, SX.evPick, SX.pickOpd, SX.popTo, SX.cnd, SX.env0, SX.TD.isAgg, SX.TD.isIface, SX.tails, SX.NotAgg, SX.evLookup, SX.evConvH, SX.evPtrEq, SX.isCells, SX.thaw, SX.frz, SX.fixB, SX.rootIx, SX.Froz, SX.frzStep, SX.fork, Go.Value.cells, Go.undef, cfg43]
    refine ⟨by (unfold SX.Ob; first | trivial | omega | ((try simp only [SX.inK]); (try simp [SX.den, SX.IsU8, SX.AllP, *]); (try omega))), ?_⟩
    intro a3 w3 hr3 _
    exact post_retn (end1 hr3 rfl rfl ⟨⟨-1, rfl, fun h => by omega, fun h => by
      obtain ⟨j, hj, rfl⟩ := List.mem_iff_getElem.1 h
      have := hs j hj
      rw [nth_lt hj] at this
      exact absurd rfl this⟩, hr3.keeps.toBelow⟩).1

set_option maxRecDepth 100000 in
set_option maxHeartbeats 8000000 in
/-- Contains. -/
theorem has_ok {P : Nat → Prop} (w : World) (v : Value) (L : List Int) (x : Int) (hL : RdI P w v L) (hn : L.length ≤ 1000000000000000) : Calls Try.prog 30 (denL [.v v, .v (.int .i64 x)]).toArray w (Ret w (.v (.bool (decide (x ∈ L))))) := by
  refine enter (F := frame0 w) Try.func30 rfl [.v v, .v (.int .i64 x)] [] (by simp [Try.f30]) trivial (keeps0 w) fun a hr => ?_
  refine seg cfg30_ok mixed PanicFree.body 1000 [] [] hr (by first | trivial | exact HpRep.nil | assumption) (by kernel_rfl) fun s_ hs_ => ?_
  simp (maxSteps := 10000000) [SX.vc, SX.stop, SX.contS, SX.contB, SX.contW, SX.contR, SX.contD, SX.sxStep, SX.stepPure, SX.stepNew, SX.stepStore, SX.stepKeep, SX.guardIx, SX.evOp, SX.opd, SX.opds, SX.optOpd, SX.look, SX.putS, SX.gobs, SX.AllP, SX.leave, SX.lookC, SX.lookB, SX.lookT, SX.lookN, SX.findK, SX.evBuiltin, SX.ints, SX.foldI, SX.evBin, SX.evInt, SX.evStr, SX.evEq, SX.arith, SX.evLoad, SX.shapeUp, SX.evFieldAddr, SX.evField, SX.evIndexAddr, SX.evIndex, SX.evFill, SX.evBuild, SX.szs, SX.cellsV, SX.evNew, SX.evStore, SX.spliceL, SX.SV.cells, SX.evConv, SX.evSlice, SX.bnd, SX.evNil, SX.evUn, SX.evPick, SX.pickOpd, SX.popTo, SX.cnd, SX.env0, SX.TD.isAgg, SX.TD.isIface, SX.tails, SX.NotAgg, SX.evLookup, SX.evConvH, SX.evPtrEq, SX.isCells, SX.thaw, SX.frz, SX.fixB, SX.rootIx, SX.Froz, SX.frzStep, SX.fork, Go.Value.cells, Go.undef, cfg30, Try.f30]
  refine ⟨by (unfold SX.Ob; first | trivial | omega | ((try simp only [SX.inK]); (try simp [SX.den, SX.IsU8, SX.AllP, *]); (try omega))), ?_⟩
  intro a1 w1 hr1 _
  refine post_call 43 [.v v, .v (.int .i64 x)] hr1 (by first | exact wanted_none rfl | exact wanted_zero (hr1.env.same rfl rfl rfl rfl) rfl (by simp) | exact wanted_zero (hr1.env.same rfl rfl rfl rfl) rfl (by simp [*])) rfl (callable 43 Try.func43) (num_ok w1 v L x (hL.below hr1.keeps.toBelow) hn) ?_
  rintro e2 w2 ⟨⟨k, rfl, hk⟩, hb2⟩
  refine ⟨_, rfl, ?_⟩
  have h2 := hr1.ret hb2 7 (.v (.int .i64 k)) rfl _ (hr1.all.below hb2) (by simp) rfl
  refine seg cfg30_ok mixed PanicFree.body 1000 [] [] h2 (by first | trivial | exact HpRep.nil | assumption) (by kernel_rfl) fun s_ hs_ => ?_
  simp (maxSteps := 10000000) [SX.vc, SX.stop, SX.contS, SX.contB, SX.contW, SX.contR, SX.contD, SX.sxStep, SX.stepPure, SX.stepNew, SX.stepStore, SX.stepKeep, SX.guardIx, SX.evOp, SX.opd, SX.opds, SX.optOpd, SX.look, SX.putS, SX.gobs, SX.AllP, SX.leave, SX.lookC, SX.lookB, SX.lookT, SX.lookN, SX.findK, SX.evBuiltin, SX.ints, SX.foldI, SX.evBin, SX.evInt, SX.evStr, SX.evEq, SX.arith, SX.evLoad, SX.shapeUp, SX.evFieldAddr, SX.evField, SX.evIndexAddr, SX.evIndex, SX.evFill, SX.evBuild, SX.szs, SX.cellsV, SX.evNew, SX.evStore, SX.spliceL, SX.SV.cells, SX.evConv, SX.evSlice, SX.bnd, SX.evNil, SX.evUn, SX.evPick, SX.pickOpd, SX.popTo, SX.cnd, SX.env0, SX.TD.isAgg, SX.TD.isIface, SX.tails, SX.NotAgg, SX.evLookup, SX.evConvH, SX.evPtrEq, SX.isCells, SX.thaw, SX.frz, SX.fixB, SX.rootIx, SX.Froz, SX.frzStep, SX.fork, Go.Value.cells, Go.undef, cfg30]
  refine ⟨by (unfold SX.Ob; first | trivial | omega | ((try simp only [SX.inK]); (try simp [SX.den, SX.IsU8, SX.AllP, *]); (try omega))), ?_⟩
  intro a3 w3 hr3 _
  exact post_retn (end1 hr3 rfl rfl ⟨by simp only [den, hk], hr3.keeps.toBelow⟩).1

set_option maxRecDepth 100000 in
set_option maxHeartbeats 8000000 in
/-- Forget's closure. -/
theorem fg_ok {P : Nat → Prop} (w : World) (v : Value) (L : List Int) (x : Sen) (c : Nat) (hc : (SO.cells [.v v] 30).rep w c) (hL : RdI P w v L) (hn : L.length ≤ 1000000000000000) : Calls Try.prog 29 (denL [.ag (senC x), .ptr 0 c 0]).toArray w (Ret w (.v (.bool (decide (x.frm ∈ L))))) := by
  obtain ⟨ad, cp, rfl⟩ := hL.slice
  refine enter (F := frame0 w) Try.func29 rfl [.ag (senC x), .ptr 0 c 0] [(c, false, .cells [.v (.slice ad L.length cp)] 30)] (by simp [Try.f29]) (HpAll.one hc) (keeps0 w) fun a hr => ?_
  refine seg cfg29_ok mixed PanicFree.body 1000 [] [] hr (by first | trivial | exact HpRep.nil | assumption) (by kernel_rfl) fun s_ hs_ => ?_
  simp (maxSteps := 10000000) [SX.vc, SX.stop, SX.contS, SX.contB, SX.contW, SX.contR, SX.contD, SX.sxStep, SX.stepPure, SX.stepNew, SX.stepStore, SX.stepKeep, SX.guardIx, SX.evOp, SX.opd, SX.opds, SX.optOpd, SX.look, SX.putS, SX.gobs, SX.AllP, SX.leave, SX.lookC, SX.lookB, SX.lookT, SX.lookN, SX.findK, SX.evBuiltin, SX.ints, SX.foldI, SX.evBin, SX.evInt, SX.evStr, SX.evEq, SX.arith, SX.evLoad, SX.shapeUp, SX.evFieldAddr, SX.evField, SX.evIndexAddr, SX.evIndex, SX.evFill, SX.evBuild, SX.szs, SX.cellsV, SX.evNew, SX.evStore, SX.spliceL, SX.SV.cells, SX.evConv, SX.evSlice, SX.bnd, SX.evNil, SX.evUn, SX.evPick, SX.pickOpd, SX.popTo, SX.cnd, SX.env0, SX.TD.isAgg, SX.TD.isIface, SX.tails, SX.NotAgg, SX.evLookup, SX.evConvH, SX.evPtrEq, SX.isCells, SX.thaw, SX.frz, SX.fixB, SX.rootIx, SX.Froz, SX.frzStep, SX.fork, Go.Value.cells, Go.undef, cfg29, Try.f29, senC]
  refine ⟨by (unfold SX.Ob; first | trivial | omega | ((try simp only [SX.inK]); (try simp [SX.den, SX.IsU8, SX.AllP, *]); (try omega))), ?_⟩
  intro a1 w1 hr1 _
  refine post_call 30 [.v (.slice ad L.length cp), .v (.int .i64 x.frm)] hr1 (by first | exact wanted_none rfl | exact wanted_zero (hr1.env.same rfl rfl rfl rfl) rfl (by simp) | exact wanted_zero (hr1.env.same rfl rfl rfl rfl) rfl (by simp [*])) rfl (callable 30 Try.func30) (has_ok w1 _ L x.frm (hL.below hr1.keeps.toBelow) hn) ?_
  rintro e2 w2 ⟨rfl, hb2⟩
  refine ⟨_, rfl, ?_⟩
  have h2 := hr1.ret hb2 7 (.v (.bool (decide (x.frm ∈ L)))) rfl _ (hr1.all.below hb2) (by simp) rfl
  refine seg cfg29_ok mixed PanicFree.body 1000 [] [] h2 (by first | trivial | exact HpRep.nil | assumption) (by kernel_rfl) fun s_ hs_ => ?_
  simp (maxSteps := 10000000) [SX.vc, SX.stop, SX.contS, SX.contB, SX.contW, SX.contR, SX.contD, SX.sxStep, SX.stepPure, SX.stepNew, SX.stepStore, SX.stepKeep, SX.guardIx, SX.evOp, SX.opd, SX.opds, SX.optOpd, SX.look, SX.putS, SX.gobs, SX.AllP, SX.leave, SX.lookC, SX.lookB, SX.lookT, SX.lookN, SX.findK, SX.evBuiltin, SX.ints, SX.foldI, SX.evBin, SX.evInt, SX.evStr, SX.evEq, SX.arith, SX.evLoad, SX.shapeUp, SX.evFieldAddr, SX.evField, SX.evIndexAddr, SX.evIndex, SX.evFill, SX.evBuild, SX.szs, SX.cellsV, SX.evNew, SX.evStore, SX.spliceL, SX.SV.cells, SX.evConv, SX.evSlice, SX.bnd, SX.evNil, SX.evUn, SX.evPick, SX.pickOpd, SX.popTo, SX.cnd, SX.env0, SX.TD.isAgg, SX.TD.isIface, SX.tails, SX.NotAgg, SX.evLookup, SX.evConvH, SX.evPtrEq, SX.isCells, SX.thaw, SX.frz, SX.fixB, SX.rootIx, SX.Froz, SX.frzStep, SX.fork, Go.Value.cells, Go.undef, cfg29]
  refine ⟨by (unfold SX.Ob; first | trivial | omega | ((try simp only [SX.inK]); (try simp [SX.den, SX.IsU8, SX.AllP, *]); (try omega))), ?_⟩
  intro a3 w3 hr3 _
  exact post_retn (end1 hr3 rfl rfl ⟨rfl, hr3.keeps.toBelow⟩).1

def IxR (w : World) (L : List Sen) (q : Sen → Bool) (e : Ending) (w' : World) : Prop := ((∃ k : Nat, e = .returned (.int .i64 k) ∧ k < L.length ∧ q (nth sen0 L k) = true ∧ ∀ j, j < k → q (nth sen0 L j) = false) ∨ (e = .returned (.int .i64 (-1)) ∧ ∀ j, j < L.length → q (nth sen0 L j) = false)) ∧ Below w.heap.size w w'
def IxLoop (w : World) (v : Value) (L : List Sen) (q : Sen → Bool) (c3 : Nat) (m : Nat) (a : Act) (w' : World) : Prop :=
  ∃ k : Nat, m = L.length - k ∧ k ≤ L.length ∧ (∀ j, j < k → q (nth sen0 L j) = false) ∧ RepX (frame0 w) ⟨[(8, 0, .v (.int .i64 k)), (7, 0, .v (.int .i64 L.length)), (0, 0, .v v), (1, 0, .fn (.func 29) [] [.ptr 0 c3 0])], [], 0, 0, 19, [], [], []⟩ a w'

set_option maxRecDepth 100000 in
set_option maxHeartbeats 8000000 in
/-- IndexFunc. -/
theorem ixf_ok {P : Nat → Prop} (w0 w : World) (v : Value) (L : List Sen) (q : Sen → Bool) (c3 : Nat) (hL : RdN P w v L) (hn : L.length ≤ 1000000) (hw : Below w0.heap.size w0 w)
    (hq : ∀ w' x, Below w0.heap.size w0 w' → Calls Try.prog 29 (denL [.ag (senC x), .ptr 0 c3 0]).toArray w' (Ret w' (.v (.bool (q x))))) : Calls Try.prog 42 (denL [.v v, .fn (.func 29) [] [.ptr 0 c3 0]]).toArray w (IxR w L q) := by
  obtain ⟨ad, cp, rfl⟩ := hL.slice
  refine enter (F := frame0 w) Try.func42 rfl [.v (.slice ad L.length cp), .fn (.func 29) [] [.ptr 0 c3 0]] [] (by simp [Try.f42]) trivial (keeps0 w) fun a hr => ?_
  refine seg cfg42_ok mixed PanicFree.body 1000 [] [] hr (by first | trivial | exact HpRep.nil | assumption) (by kernel_rfl) fun s_ hs_ => ?_
  simp (maxSteps := 10000000) [SX.vc, SX.stop, SX.contS, SX.contB, SX.contW, SX.contR, SX.contD, SX.sxStep, SX.stepPure, SX.stepNew, SX.stepStore, SX.stepKeep, SX.guardIx, SX.evOp, SX.opd, SX.opds, SX.optOpd, SX.look, SX.putS, SX.gobs, SX.AllP, SX.leave, SX.lookC, SX.lookB, SX.lookT, SX.lookN, SX.findK, SX.evBuiltin, SX.ints, SX.foldI, SX.evBin, SX.evInt, SX.evStr, SX.evEq, SX.arith, SX.evLoad, SX.shapeUp, SX.evFieldAddr, SX.evField, SX.evIndexAddr, SX.evIndex, SX.evFill, SX.evBuild, SX.szs, SX.cellsV, SX.evNew, SX.evStore, SX.spliceL, SX.SV.cells, SX.evConv, SX.evSlice, SX.bnd, SX.evNil, SX.evUn, SX.evPick, SX.pickOpd, SX.popTo, SX.cnd, SX.env0, SX.TD.isAgg, SX.TD.isIface, SX.tails, SX.NotAgg, SX.evLookup, SX.evConvH, SX.evPtrEq, SX.isCells, SX.thaw, SX.frz, SX.fixB, SX.rootIx, SX.Froz, SX.frzStep, SX.fork, Go.Value.cells, Go.undef, cfg42, Try.f42]
  refine ⟨by (unfold SX.Ob; first | trivial | omega | ((try simp only [SX.inK]); (try simp [SX.den, SX.IsU8, SX.AllP, *]); (try omega))), ?_⟩
  intro a1 w1 hr1 _
  refine post_loop (IxLoop w (.slice ad L.length cp) L q c3) L.length ⟨0, rfl, by omega, by omega, hr1.re (by simp [envTo, SX.look]) trivial rfl rfl⟩ ?_
  rintro m a2 w2 ⟨k, rfl, hk, hs, hr2⟩
  by_cases hlt : k < L.length
  · obtain ⟨b, o0, cap, u, fz, hP, hv, hrep⟩ := hL.opn hlt
    cases hv
    have hrep2 := SO.rep_same hrep (hr2.keeps.toBelow.block _ (SO.rep_lt hrep))
    obtain ⟨x, hx⟩ : ∃ x, nth sen0 L k = x := ⟨_, rfl⟩
    have h2 := (hr2.top 0 (.sl 0 b o0 0 L.length cp 3) rfl (by simp [den])).see _ (HpAll.one hrep2)
    refine seg cfg42_ok mixed PanicFree.body 1000 [true] [] h2 (by first | trivial | exact HpRep.nil | assumption) (by kernel_rfl) fun s_ hs_ => ?_
    simp (maxSteps := 10000000) [SX.vc, SX.stop, SX.contS, SX.contB, SX.contW, SX.contR, SX.contD, SX.sxStep, SX.stepPure, SX.stepNew, SX.stepStore, SX.stepKeep, SX.guardIx, SX.evOp, SX.opd, SX.opds, SX.optOpd, SX.look, SX.putS, SX.gobs, SX.AllP, SX.leave, SX.lookC, SX.lookB, SX.lookT, SX.lookN, SX.findK, SX.evBuiltin, SX.ints, SX.foldI, SX.evBin, SX.evInt, SX.evStr, SX.evEq, SX.arith, SX.evLoad, SX.shapeUp, SX.evFieldAddr, SX.evField, SX.evIndexAddr, SX.evIndex, SX.evFill, SX.evBuild, SX.szs, SX.cellsV, SX.evNew, SX.evStore, SX.spliceL, SX.SV.cells, SX.evConv, SX.evSlice, SX.bnd, SX.evNil, SX.evUn, SX.evPick, SX.pickOpd, SX.popTo, SX.cnd, SX.env0, SX.TD.isAgg, SX.TD.isIface, SX.tails, SX.NotAgg, SX.evLookup, SX.evConvH, SX.evPtrEq, SX.isCells, SX.thaw, SX.frz, SX.fixB, SX.rootIx, SX.Froz, SX.frzStep, SX.fork, Go.Value.cells, Go.undef, cfg42, senC, hx]
    refine ⟨by (unfold SX.Ob; first | trivial | omega | ((try simp only [SX.inK]); (try simp [SX.den, SX.IsU8, SX.AllP, *]); (try omega))), ?_⟩
    intro a3 w3 hr3 _
    refine post_call 29 [.ag (senC x), .ptr 0 c3 0] hr3 (by first | exact wanted_none rfl | exact wanted_zero (hr3.env.same rfl rfl rfl rfl) rfl (by simp) | exact wanted_zero (hr3.env.same rfl rfl rfl rfl) rfl (by simp [*])) rfl (callable 29 Try.func29) (hq w3 x (Below.more hw (M := []) hr3.keeps (by simp))) ?_
    rintro e4 w4 ⟨rfl, hb4⟩
    refine ⟨_, rfl, ?_⟩
    have h4 := hr3.ret hb4 16 (.v (.bool (q x))) rfl _ (hr3.all.below hb4) (by simp) rfl
    by_cases hM : q x = true
    · refine seg cfg42_ok mixed PanicFree.body 1000 [true] [] h4 (by first | trivial | exact HpRep.nil | assumption) (by kernel_rfl) fun s_ hs_ => ?_
      simp (maxSteps := 10000000) [SX.vc, SX.stop, SX.contS, SX.contB, SX.contW, SX.contR, SX.contD, SX.sxStep, SX.stepPure, SX.stepNew, SX.stepStore, SX.stepKeep, SX.guardIx, SX.evOp, SX.opd, SX.opds, SX.optOpd, SX.look, SX.putS, SX.gobs, SX.AllP, SX.leave, SX.lookC, SX.lookB, SX.lookT, SX.lookN, SX.findK, SX.evBuiltin, SX.ints, SX.foldI, SX.evBin, SX.evInt, SX.evStr, SX.evEq, SX.arith, SX.evLoad, SX.shapeUp, SX.evFieldAddr, SX.evField, SX.evIndexAddr, SX.evIndex, SX.evFill, SX.evBuild, SX.szs, SX.cellsV, SX.evNew, SX.evStore, SX.spliceL, SX.SV.cells, SX.evConv, SX.evSlice, SX.bnd, SX.evNil, SX.evUn, SX.evPick, SX.pickOpd, SX.popTo, SX.cnd, SX.env0, SX.TD.isAgg, SX.TD.isIface, SX.tails, SX.NotAgg, SX.evLookup, SX.evConvH, SX.evPtrEq, SX.isCells, SX.thaw, SX.frz, SX.fixB, SX.rootIx, SX.Froz, SX.frzStep, SX.fork, Go.Value.cells, Go.undef, cfg42, hM]
      refine ⟨by (unfold SX.Ob; first | trivial | omega | ((try simp only [SX.inK]); (try simp [SX.den, SX.IsU8, SX.AllP, *]); (try omega))), ?_⟩
      intro a5 w5 hr5 _
      exact post_retn (end1 hr5 rfl rfl ⟨.inl ⟨k, rfl, hlt, hx ▸ hM, hs⟩, hr5.keeps.toBelow⟩).1
    · have hM' : q x = false := by simpa using hM
      refine seg cfg42_ok mixed PanicFree.body 1000 [false] [] h4 (by first | trivial | exact HpRep.nil | assumption) (by kernel_rfl) fun s_ hs_ => ?_
      simp (maxSteps := 10000000) [SX.vc, SX.stop, SX.contS, SX.contB, SX.contW, SX.contR, SX.contD, SX.sxStep, SX.stepPure, SX.stepNew, SX.stepStore, SX.stepKeep, SX.guardIx, SX.evOp, SX.opd, SX.opds, SX.optOpd, SX.look, SX.putS, SX.gobs, SX.AllP, SX.leave, SX.lookC, SX.lookB, SX.lookT, SX.lookN, SX.findK, SX.evBuiltin, SX.ints, SX.foldI, SX.evBin, SX.evInt, SX.evStr, SX.evEq, SX.arith, SX.evLoad, SX.shapeUp, SX.evFieldAddr, SX.evField, SX.evIndexAddr, SX.evIndex, SX.evFill, SX.evBuild, SX.szs, SX.cellsV, SX.evNew, SX.evStore, SX.spliceL, SX.SV.cells, SX.evConv, SX.evSlice, SX.bnd, SX.evNil, SX.evUn, SX.evPick, SX.pickOpd, SX.popTo, SX.cnd, SX.env0, SX.TD.isAgg, SX.TD.isIface, SX.tails, SX.NotAgg, SX.evLookup, SX.evConvH, SX.evPtrEq, SX.isCells, SX.thaw, SX.frz, SX.fixB, SX.rootIx, SX.Froz, SX.frzStep, SX.fork, Go.Value.cells, Go.undef, cfg42, hM']
      refine ⟨by (unfold SX.Ob; first | trivial | omega | ((try simp only [SX.inK]); (try simp [SX.den, SX.IsU8, SX.AllP, *]); (try omega))), ?_⟩
      intro a5 w5 hr5 _
      exact post_rnd (L.length - (k + 1)) (by omega) ⟨k + 1, rfl, hlt, fun j hj => (by
        rcases Nat.lt_or_ge j k with h | h
        · exact hs j h
        · obtain rfl : j = k := by omega
          rw [hx]; exact hM'), hr5.re (by simp [envTo, SX.look, den]) trivial rfl rfl⟩
  · obtain rfl : k = L.length := by omega
    refine seg cfg42_ok mixed PanicFree.body 1000 [false] [] hr2 (by first | trivial | exact HpRep.nil | assumption) (by kernel_rfl) fun s_ hs_ => ?_
    simp (maxSteps := 10000000) [SX.vc, SX.stop, SX.contS, SX.contB, SX.contW, SX.contR, SX.contD, SX.sxStep, SX.stepPure, SX.stepNew, SX.stepStore, SX.stepKeep, SX.guardIx, SX.evOp, SX.opd, SX.opds, SX.optOpd, SX.look, SX.putS, SX.gobs, SX.AllP, SX.leave, SX.lookC, SX.lookB, SX.lookT, SX.lookN, SX.findK, SX.evBuiltin, SX.ints, SX.foldI, SX.evBin, SX.evInt, SX.evStr, SX.evEq, SX.arith, SX.evLoad, SX.shapeUp, SX.evFieldAddr, SX.evField, SX.evIndexAddr, SX.evIndex, SX.evFill, SX.evBuild, SX.szs, SX.cellsV, SX.evNew, SX.evStore, SX.spliceL, SX.SV.cells, SX.evConv, SX.evSlice, SX.bnd, SX.evNil, SX.evUn, SX.evPick, SX.pickOpd, SX.popTo, SX.cnd, SX.env0, SX.TD.isAgg, SX.TD.isIface, SX.tails, SX.NotAgg, SX.evLookup, SX.evConvH, SX.evPtrEq, SX.isCells, SX.thaw, SX.frz, SX.fixB, SX.rootIx, SX.Froz, SX.frzStep, SX.fork, Go.Value.cells, Go.undef, cfg42]
    refine ⟨by (unfold SX.Ob; first | trivial | omega | ((try simp only [SX.inK]); (try simp [SX.den, SX.IsU8, SX.AllP, *]); (try omega))), ?_⟩
    intro a3 w3 hr3 _
    exact post_retn (end1 hr3 rfl rfl ⟨.inr ⟨rfl, hs⟩, hr3.keeps.toBelow⟩).1

def DelR (P : Nat → Prop) (w : World) (L' : List Sen) (e : Ending) (w' : World) : Prop := ∃ v' B, e = .returned v' ∧ OwN P w' v' L' ∧ (∀ b ∈ B, P b ∧ b < w.heap.size) ∧ KeepsTo w B w'

def keepL (q : Sen → Bool) (L : List Sen) : List Sen := L.filter fun x => !q x
theorem keep_all {q : Sen → Bool} : ∀ {L : List Sen}, (∀ j, j < L.length → q (nth sen0 L j) = false) → keepL q L = L
  | [], _ => rfl
  | s :: r, h => by
    have h0 : q s = false := h 0 (by simp)
    have ih := keep_all (q := q) (L := r) fun j hj => h (j + 1) (by simpa using hj)
    unfold keepL at ih ⊢
    rw [List.filter_cons_of_pos (by simp [h0]), ih]
theorem keep_take {q : Sen → Bool} {L : List Sen} {j : Nat} {x : Sen} (h : j < L.length) (hx : nth sen0 L j = x) : keepL q (L.take (j + 1)) = keepL q (L.take j) ++ (if q x then [] else [x]) := by
  unfold keepL
  rw [take_nth (d := sen0) h, hx, List.filter_append]
  congr 1
  by_cases hq : q x = true
  · simp [hq]
  · simp [hq]

def DlLoop (w : World) (L : List Sen) (q : Sen → Bool) (c3 b N cap u : Nat) (m : Nat) (a : Act) (w' : World) : Prop :=
  ∃ (j : Nat) (row : Nat → List SV), m = L.length - j ∧ j ≤ L.length ∧ (keepL q (L.take j)).length < j ∧ (∀ r, r < (keepL q (L.take j)).length → row r = senC (nth sen0 (keepL q (L.take j)) r)) ∧ (∀ r, (keepL q (L.take j)).length ≤ r → r < L.length → row r = senC (nth sen0 L r)) ∧
    RepX ⟨w, w.heap.size, [b]⟩ ⟨[(6, 0, .v (.int .i64 j)), (5, 0, .v (.int .i64 (keepL q (L.take j)).length)), (0, 0, .sl 0 b 0 0 L.length cap 3), (1, 0, .fn (.func 29) [] [.ptr 0 c3 0]), (4, 0, .v (.slice none 0 0))], [(b, true, .arr 0 N row 3 u (0, 0))], 0, 0, 42, [], [], []⟩ a w'

set_option maxRecDepth 100000 in
set_option maxHeartbeats 16000000 in
/-- DeleteFunc. -/
theorem delf_ok {P : Nat → Prop} (w0 w : World) (v : Value) (L : List Sen) (q : Sen → Bool) (c3 : Nat) (hO : OwN P w v L) (hn : L.length ≤ 1000000) (hw : Below w0.heap.size w0 w) (hP : ∀ x, P x → w0.heap.size ≤ x)
    (hq : ∀ w' x, Below w0.heap.size w0 w' → Calls Try.prog 29 (denL [.ag (senC x), .ptr 0 c3 0]).toArray w' (Ret w' (.v (.bool (q x))))) : Calls Try.prog 28 (denL [.v v, .fn (.func 29) [] [.ptr 0 c3 0]]).toArray w (DelR P w (keepL q L)) := by
  by_cases hdel : ∀ j, j < L.length → q (nth sen0 L j) = false
  · obtain ⟨ad, cp, rfl⟩ := hO.slice
    refine enter (F := frame0 w) Try.func28 rfl [.v (.slice ad L.length cp), .fn (.func 29) [] [.ptr 0 c3 0]] [] (by simp [Try.f28]) trivial (keeps0 w) fun a hr => ?_
    refine seg cfg28_ok mixed PanicFree.body 1000 [] [] hr (by first | trivial | exact HpRep.nil | assumption) (by kernel_rfl) fun s_ hs_ => ?_
    simp (maxSteps := 10000000) [SX.vc, SX.stop, SX.contS, SX.contB, SX.contW, SX.contR, SX.contD, SX.sxStep, SX.stepPure, SX.stepNew, SX.stepStore, SX.stepKeep, SX.guardIx, SX.evOp, SX.opd, SX.opds, SX.optOpd, SX.look, SX.putS, SX.gobs, SX.AllP, SX.leave, SX.lookC, SX.lookB, SX.lookT, SX.lookN, SX.findK, SX.evBuiltin, SX.ints, SX.foldI, SX.evBin, SX.evInt, SX.evStr, SX.evEq, SX.arith, SX.evLoad, SX.shapeUp, SX.evFieldAddr, SX.evField, SX.evIndexAddr, SX.evIndex, SX.evFill, SX.evBuild, SX.szs, SX.cellsV, SX.evNew, SX.evStore, SX.spliceL, SX.SV.cells, SX.evConv, SX.evSlice, SX.bnd, SX.evNil, SX.evUn, SX.evPick, SX.pickOpd, SX.popTo, SX.cnd, SX.env0, SX.TD.isAgg, SX.TD.isIface, SX.tails, SX.NotAgg, SX.evLookup, SX.evConvH, SX.evPtrEq, SX.isCells, SX.thaw, SX.frz, SX.fixB, SX.rootIx, SX.Froz, SX.frzStep, SX.fork, Go.Value.cells, Go.undef, cfg28, Try.f28]
    refine ⟨by (unfold SX.Ob; first | trivial | omega | ((try simp only [SX.inK]); (try simp [SX.den, SX.IsU8, SX.AllP, *]); (try omega))), ?_⟩
    intro a1 w1 hr1 _
    have hix : Calls Try.prog 42 (denL [.v (.slice ad L.length cp), .fn (.func 29) [] [.ptr 0 c3 0]]).toArray w1 (fun e w' => e = .returned (.int .i64 (-1)) ∧ Below w1.heap.size w1 w') := (ixf_ok w0 w1 _ L q c3 (hO.rd.below hr1.keeps.toBelow) hn (Below.more hw (M := []) hr1.keeps (by simp)) hq).mono fun e w' h => by
      rcases h with ⟨⟨k, _, hk, hqk, _⟩ | ⟨he, _⟩, hb⟩
      · rw [hdel k hk] at hqk; simp at hqk
      · exact ⟨he, hb⟩
    refine post_call 42 [.v (.slice ad L.length cp), .fn (.func 29) [] [.ptr 0 c3 0]] hr1 (by first | exact wanted_none rfl | exact wanted_zero (hr1.env.same rfl rfl rfl rfl) rfl (by simp) | exact wanted_zero (hr1.env.same rfl rfl rfl rfl) rfl (by simp [*])) rfl (callable 42 Try.func42) (hix) ?_
    rintro e2 w2 ⟨rfl, hb2⟩
    refine ⟨_, rfl, ?_⟩
    have h2 := hr1.ret hb2 10 (.v (.int .i64 (-1))) rfl _ (hr1.all.below hb2) (by simp) rfl
    refine seg cfg28_ok mixed PanicFree.body 1000 [true] [] h2 (by first | trivial | exact HpRep.nil | assumption) (by kernel_rfl) fun s_ hs_ => ?_
    simp (maxSteps := 10000000) [SX.vc, SX.stop, SX.contS, SX.contB, SX.contW, SX.contR, SX.contD, SX.sxStep, SX.stepPure, SX.stepNew, SX.stepStore, SX.stepKeep, SX.guardIx, SX.evOp, SX.opd, SX.opds, SX.optOpd, SX.look, SX.putS, SX.gobs, SX.AllP, SX.leave, SX.lookC, SX.lookB, SX.lookT, SX.lookN, SX.findK, SX.evBuiltin, SX.ints, SX.foldI, SX.evBin, SX.evInt, SX.evStr, SX.evEq, SX.arith, SX.evLoad, SX.shapeUp, SX.evFieldAddr, SX.evField, SX.evIndexAddr, SX.evIndex, SX.evFill, SX.evBuild, SX.szs, SX.cellsV, SX.evNew, SX.evStore, SX.spliceL, SX.SV.cells, SX.evConv, SX.evSlice, SX.bnd, SX.evNil, SX.evUn, SX.evPick, SX.pickOpd, SX.popTo, SX.cnd, SX.env0, SX.TD.isAgg, SX.TD.isIface, SX.tails, SX.NotAgg, SX.evLookup, SX.evConvH, SX.evPtrEq, SX.isCells, SX.thaw, SX.frz, SX.fixB, SX.rootIx, SX.Froz, SX.frzStep, SX.fork, Go.Value.cells, Go.undef, cfg28]
    refine ⟨by (unfold SX.Ob; first | trivial | omega | ((try simp only [SX.inK]); (try simp [SX.den, SX.IsU8, SX.AllP, *]); (try omega))), ?_⟩
    intro a3 w3 hr3 _
    exact post_retn (end1 hr3 rfl rfl ⟨_, [], rfl, by rw [keep_all hdel]; exact hO.below hr3.keeps.toBelow, by simp, hr3.keeps⟩).1
  · obtain ⟨i0, hi0, hq0⟩ : ∃ j, j < L.length ∧ q (nth sen0 L j) = true := by
      refine Classical.byContradiction fun h => hdel fun j hj => ?_
      rcases hb : q (nth sen0 L j)
      · rfl
      · exact absurd ⟨j, hj, hb⟩ h
    obtain ⟨b, N, cap, u, row, hPb, rfl, hc0, hc1, hc2, hrep, hrow⟩ := hO.opn hi0
    have hbw := SO.rep_lt hrep
    have hE : HpAll ⟨w, w.heap.size, [b]⟩ w [(b, true, .arr 0 N row 3 u (0, 0))] := ⟨⟨hrep, fun _ => .inr (by simp), by simp⟩, trivial⟩
    refine enter (F := ⟨w, w.heap.size, [b]⟩) Try.func28 rfl [.sl 0 b 0 0 L.length cap 3, .fn (.func 29) [] [.ptr 0 c3 0]] _ (by simp [Try.f28, denL, den]) hE (KeepsTo.refl w _) fun a hr => ?_
    have hM0 : ∀ x ∈ [b], w0.heap.size ≤ x := by simpa using hP b hPb
    refine seg cfg28_ok mixed PanicFree.body 1000 [] [] hr (by first | trivial | exact HpRep.nil | assumption) (by kernel_rfl) fun s_ hs_ => ?_
    simp (maxSteps := 10000000) [SX.vc, SX.stop, SX.contS, SX.contB, SX.contW, SX.contR, SX.contD, SX.sxStep, SX.stepPure, SX.stepNew, SX.stepStore, SX.stepKeep, SX.guardIx, SX.evOp, SX.opd, SX.opds, SX.optOpd, SX.look, SX.putS, SX.gobs, SX.AllP, SX.leave, SX.lookC, SX.lookB, SX.lookT, SX.lookN, SX.findK, SX.evBuiltin, SX.ints, SX.foldI, SX.evBin, SX.evInt, SX.evStr, SX.evEq, SX.arith, SX.evLoad, SX.shapeUp, SX.evFieldAddr, SX.evField, SX.evIndexAddr, SX.evIndex, SX.evFill, SX.evBuild, SX.szs, SX.cellsV, SX.evNew, SX.evStore, SX.spliceL, SX.SV.cells, SX.evConv, SX.evSlice, SX.bnd, SX.evNil, SX.evUn, SX.evPick, SX.pickOpd, SX.popTo, SX.cnd, SX.env0, SX.TD.isAgg, SX.TD.isIface, SX.tails, SX.NotAgg, SX.evLookup, SX.evConvH, SX.evPtrEq, SX.isCells, SX.thaw, SX.frz, SX.fixB, SX.rootIx, SX.Froz, SX.frzStep, SX.fork, Go.Value.cells, Go.undef, cfg28, Try.f28]
    refine ⟨by (unfold SX.Ob; first | trivial | omega | ((try simp only [SX.inK]); (try simp [SX.den, SX.IsU8, SX.AllP, *]); (try omega))), ?_⟩
    intro a1 w1 hr1 _
    have hO1 : OwN P w1 (.slice (some ⟨b, 0, none⟩) L.length cap) L := .inr ⟨b, N, cap, u, row, hPb, rfl, hc0, hc1, hc2, hr1.all.1.1, hrow⟩
    have hix : Calls Try.prog 42 (denL [.sl 0 b 0 0 L.length cap 3, .fn (.func 29) [] [.ptr 0 c3 0]]).toArray w1 (fun e w' => (∃ k : Nat, e = .returned (.int .i64 k) ∧ k < L.length ∧ q (nth sen0 L k) = true ∧ ∀ j, j < k → q (nth sen0 L j) = false) ∧ Below w1.heap.size w1 w') := (ixf_ok w0 w1 (.slice (some ⟨b, 0, none⟩) L.length cap) L q c3 hO1.rd hn (Below.more hw (M := [b]) hr1.keeps hM0) hq).mono fun e w' h => by
      rcases h with ⟨⟨k, he, hk, hqk, hno⟩ | ⟨_, hno⟩, hb⟩
      · exact ⟨⟨k, he, hk, hqk, hno⟩, hb⟩
      · rw [hno i0 hi0] at hq0; simp at hq0
    refine post_call 42 [.sl 0 b 0 0 L.length cap 3, .fn (.func 29) [] [.ptr 0 c3 0]] hr1 (by first | exact wanted_none rfl | exact wanted_zero (hr1.env.same rfl rfl rfl rfl) rfl (by simp) | exact wanted_zero (hr1.env.same rfl rfl rfl rfl) rfl (by simp [*])) rfl (callable 42 Try.func42) (hix) ?_
    rintro e2 w2 ⟨⟨k, rfl, hk, hqk, hno⟩, hb2⟩
    refine ⟨_, rfl, ?_⟩
    have h2 := hr1.ret hb2 10 (.v (.int .i64 k)) rfl _ (hr1.all.below hb2) (by simp) rfl
    have hk1 : ¬ (k : Int) = -1 := by omega
    refine seg cfg28_ok mixed PanicFree.body 1000 [false] [] h2 (by first | trivial | exact HpRep.nil | assumption) (by kernel_rfl) fun s_ hs_ => ?_
    simp (maxSteps := 10000000) [SX.vc, SX.stop, SX.contS, SX.contB, SX.contW, SX.contR, SX.contD, SX.sxStep, SX.stepPure, SX.stepNew, SX.stepStore, SX.stepKeep, SX.guardIx, SX.evOp, SX.opd, SX.opds, SX.optOpd, SX.look, SX.putS, SX.gobs, SX.AllP, SX.leave, SX.lookC, SX.lookB, SX.lookT, SX.lookN, SX.findK, SX.evBuiltin, SX.ints, SX.foldI, SX.evBin, SX.evInt, SX.evStr, SX.evEq, SX.arith, SX.evLoad, SX.shapeUp, SX.evFieldAddr, SX.evField, SX.evIndexAddr, SX.evIndex, SX.evFill, SX.evBuild, SX.szs, SX.cellsV, SX.evNew, SX.evStore, SX.spliceL, SX.SV.cells, SX.evConv, SX.evSlice, SX.bnd, SX.evNil, SX.evUn, SX.evPick, SX.pickOpd, SX.popTo, SX.cnd, SX.env0, SX.TD.isAgg, SX.TD.isIface, SX.tails, SX.NotAgg, SX.evLookup, SX.evConvH, SX.evPtrEq, SX.isCells, SX.thaw, SX.frz, SX.fixB, SX.rootIx, SX.Froz, SX.frzStep, SX.fork, Go.Value.cells, Go.undef, cfg28, hk1]
    refine ⟨by (unfold SX.Ob; first | trivial | omega | ((try simp only [SX.inK]); (try simp [SX.den, SX.IsU8, SX.AllP, *]); (try omega))), ?_⟩
    intro a3 w3 hr3 _
    have hkt : keepL q (L.take k) = L.take k := keep_all fun j hj => by
      have hj' : j < k := by simp at hj; omega
      have e1 : nth sen0 (L.take k) j = nth sen0 L j := by
        have := nth_part (d := sen0) (L := L) (i := 0) (n := k) hj'
        simpa using this
      rw [e1]; exact hno j hj'
    have hkt1 : keepL q (L.take (k + 1)) = L.take k := by rw [keep_take hk rfl, hqk, hkt]; simp
    have hkl : (keepL q (L.take (k + 1))).length = k := by rw [hkt1]; simp; omega
    refine post_loop (DlLoop w L q c3 b N cap u) (L.length - (k + 1)) ⟨k + 1, row, rfl, hk, by omega, fun r hr' => (by
      rw [hkt1, hrow r (by omega)]
      congr 1
      have := nth_part (d := sen0) (L := L) (i := 0) (n := k) (show r < k by omega)
      simpa using this.symm), fun r _ hr' => hrow r hr', hr3.re (by simp [envTo, SX.look, den, hkl]) hr3.all rfl rfl⟩ ?_
    rintro m a4 w4 ⟨j, row4, rfl, hj, hij, hr1', hr2', hr4⟩
    obtain ⟨i, hi⟩ : ∃ i, (keepL q (L.take j)).length = i := ⟨_, rfl⟩
    rw [hi] at hij hr1' hr2' hr4
    by_cases hlt : j < L.length
    · obtain ⟨x, hx⟩ : ∃ x, nth sen0 L j = x := ⟨_, rfl⟩
      have hrj : row4 j = [.v (.int .i64 x.frm), .v (.int .i64 x.below), .v (.slice x.ad x.S.length x.cp)] := by rw [hr2' j (by omega) hlt, hx]; rfl
      have hjN : j < N := by omega
      have hiN : i < N := by omega
      have hkt2 := keep_take (q := q) hlt hx
      obtain ⟨y, hy⟩ : ∃ y, nth sen0 L i = y := ⟨_, rfl⟩
      have hri : row4 i = [.v (.int .i64 y.frm), .v (.int .i64 y.below), .v (.slice y.ad y.S.length y.cp)] := by rw [hr2' i (Nat.le_refl _) (by omega), hy]; rfl
      refine seg cfg28_ok mixed PanicFree.body 1000 [true] [] hr4 (by first | trivial | exact HpRep.nil | assumption) (by kernel_rfl) fun sX hsX => ?_
      simp (maxSteps := 10000000) [SX.vc, SX.stop, SX.contS, SX.contB, SX.contW, SX.contR, SX.contD, SX.sxStep, SX.stepPure, SX.stepNew, SX.stepStore, SX.stepKeep, SX.guardIx, SX.evOp, SX.opd, SX.opds, SX.optOpd, SX.look, SX.putS, SX.gobs, SX.AllP, SX.leave, SX.lookC, SX.lookB, SX.lookT, SX.lookN, SX.findK, SX.evBuiltin, SX.ints, SX.foldI, SX.evBin, SX.evInt, SX.evStr, SX.evEq, SX.arith, SX.evLoad, SX.shapeUp, SX.evFieldAddr, SX.evField, SX.evIndexAddr, SX.evIndex, SX.evFill, SX.evBuild, SX.szs, SX.cellsV, SX.evNew, SX.evStore, SX.spliceL, SX.SV.cells, SX.evConv, SX.evSlice, SX.bnd, SX.evNil, SX.evUn, SX.evPick, SX.pickOpd, SX.popTo, SX.cnd, SX.env0, SX.TD.isAgg, SX.TD.isIface, SX.tails, SX.NotAgg, SX.evLookup, SX.evConvH, SX.evPtrEq, SX.isCells, SX.thaw, SX.frz, SX.fixB, SX.rootIx, SX.Froz, SX.frzStep, SX.fork, Go.Value.cells, Go.undef, cfg28, hrj]
      refine ⟨by (unfold SX.Ob; first | trivial | omega | ((try simp only [SX.inK]); (try simp [SX.den, SX.IsU8, SX.AllP, *]); (try omega))), ?_⟩
      intro a5 w5 hr5 _
      refine post_call 29 [.ag (senC x), .ptr 0 c3 0] hr5 (by first | exact wanted_none rfl | exact wanted_zero (hr5.env.same rfl rfl rfl rfl) rfl (by simp) | exact wanted_zero (hr5.env.same rfl rfl rfl rfl) rfl (by simp [*])) rfl (callable 29 Try.func29) (hq w5 x (Below.more hw (M := [b]) hr5.keeps hM0)) ?_
      rintro e6 w6 ⟨rfl, hb6⟩
      refine ⟨_, rfl, ?_⟩
      have h6 := hr5.ret hb6 28 (.v (.bool (q x))) rfl _ (hr5.all.below hb6) (by simp) rfl
      by_cases hqx : q x = true
      · rw [hqx, if_pos rfl, List.append_nil] at hkt2
        refine seg cfg28_ok mixed PanicFree.body 1000 [false] [] h6 (by first | trivial | exact HpRep.nil | assumption) (by kernel_rfl) fun s_ hs_ => ?_
        simp (maxSteps := 10000000) [SX.vc, SX.stop, SX.contS, SX.contB, SX.contW, SX.contR, SX.contD, SX.sxStep, SX.stepPure, SX.stepNew, SX.stepStore, SX.stepKeep, SX.guardIx, SX.evOp, SX.opd, SX.opds, SX.optOpd, SX.look, SX.putS, SX.gobs, SX.AllP, SX.leave, SX.lookC, SX.lookB, SX.lookT, SX.lookN, SX.findK, SX.evBuiltin, SX.ints, SX.foldI, SX.evBin, SX.evInt, SX.evStr, SX.evEq, SX.arith, SX.evLoad, SX.shapeUp, SX.evFieldAddr, SX.evField, SX.evIndexAddr, SX.evIndex, SX.evFill, SX.evBuild, SX.szs, SX.cellsV, SX.evNew, SX.evStore, SX.spliceL, SX.SV.cells, SX.evConv, SX.evSlice, SX.bnd, SX.evNil, SX.evUn, SX.evPick, SX.pickOpd, SX.popTo, SX.cnd, SX.env0, SX.TD.isAgg, SX.TD.isIface, SX.tails, SX.NotAgg, SX.evLookup, SX.evConvH, SX.evPtrEq, SX.isCells, SX.thaw, SX.frz, SX.fixB, SX.rootIx, SX.Froz, SX.frzStep, SX.fork, Go.Value.cells, Go.undef, cfg28, hqx]
        refine ⟨by (unfold SX.Ob; first | trivial | omega | ((try simp only [SX.inK]); (try simp [SX.den, SX.IsU8, SX.AllP, *]); (try omega))), ?_⟩
        intro a7 w7 hr7 _
        exact post_rnd (L.length - (j + 1)) (by omega) ⟨j + 1, row4, rfl, hlt, by rw [hkt2, hi]; omega, by rw [hkt2, hi]; exact hr1', by rw [hkt2, hi]; exact hr2', hr7.re (by simp [envTo, SX.look, den, hkt2, hi]) (hr7.all.take 1) rfl rfl⟩
      · have hqx' : q x = false := by simpa using hqx
        rw [hqx', if_neg (by simp)] at hkt2
        have hil : (keepL q (L.take (j + 1))).length = i + 1 := by rw [hkt2, List.length_append, hi]; rfl
        refine seg cfg28_ok mixed PanicFree.body 1000 [true] [] h6 (by first | trivial | exact HpRep.nil | assumption) (by kernel_rfl) fun s_ hs_ => ?_
        simp (maxSteps := 10000000) [SX.vc, SX.stop, SX.contS, SX.contB, SX.contW, SX.contR, SX.contD, SX.sxStep, SX.stepPure, SX.stepNew, SX.stepStore, SX.stepKeep, SX.guardIx, SX.evOp, SX.opd, SX.opds, SX.optOpd, SX.look, SX.putS, SX.gobs, SX.AllP, SX.leave, SX.lookC, SX.lookB, SX.lookT, SX.lookN, SX.findK, SX.evBuiltin, SX.ints, SX.foldI, SX.evBin, SX.evInt, SX.evStr, SX.evEq, SX.arith, SX.evLoad, SX.shapeUp, SX.evFieldAddr, SX.evField, SX.evIndexAddr, SX.evIndex, SX.evFill, SX.evBuild, SX.szs, SX.cellsV, SX.evNew, SX.evStore, SX.spliceL, SX.SV.cells, SX.evConv, SX.evSlice, SX.bnd, SX.evNil, SX.evUn, SX.evPick, SX.pickOpd, SX.popTo, SX.cnd, SX.env0, SX.TD.isAgg, SX.TD.isIface, SX.tails, SX.NotAgg, SX.evLookup, SX.evConvH, SX.evPtrEq, SX.isCells, SX.thaw, SX.frz, SX.fixB, SX.rootIx, SX.Froz, SX.frzStep, SX.fork, Go.Value.cells, Go.undef, cfg28, hqx', hri]
        refine ⟨by (unfold SX.Ob; first | trivial | omega | ((try simp only [SX.inK]); (try simp [SX.den, SX.IsU8, SX.AllP, *]); (try omega))), ?_⟩
        intro a7 w7 hr7 _
        exact post_rnd (L.length - (j + 1)) (by omega) ⟨j + 1, _, rfl, hlt, by rw [hil]; omega, fun r hr' => (by
          rw [hil] at hr'
          unfold setRow
          by_cases hri' : r = i
          · subst hri'
            rw [if_pos rfl, hkt2]
            have := nth_append_right (d := sen0) (L := keepL q (L.take j)) (M := [x]) (j := 0)
            rw [hi] at this
            rw [show r + 0 = r from rfl] at this
            rw [this]
            simp [nth, senC]
          · rw [if_neg hri', hr1' r (by omega), hkt2, nth_append_left (by omega)]), fun r hr' hrl => (by
          rw [hil] at hr'
          unfold setRow
          rw [if_neg (by omega), hr2' r (by omega) hrl]), hr7.re (by simp [envTo, SX.look, den, hil]) (hr7.all.take 1) rfl rfl⟩
    · obtain rfl : j = L.length := by omega
      rw [List.take_length] at hi hr1'
      have hci : ¬ cap = i := by omega
      refine seg cfg28_ok mixed PanicFree.body 1000 [false] [] hr4 (by first | trivial | exact HpRep.nil | assumption) (by kernel_rfl) fun s_ hs_ => ?_
      simp (maxSteps := 10000000) [SX.vc, SX.stop, SX.contS, SX.contB, SX.contW, SX.contR, SX.contD, SX.sxStep, SX.stepPure, SX.stepNew, SX.stepStore, SX.stepKeep, SX.guardIx, SX.evOp, SX.opd, SX.opds, SX.optOpd, SX.look, SX.putS, SX.gobs, SX.AllP, SX.leave, SX.lookC, SX.lookB, SX.lookT, SX.lookN, SX.findK, SX.evBuiltin, SX.ints, SX.foldI, SX.evBin, SX.evInt, SX.evStr, SX.evEq, SX.arith, SX.evLoad, SX.shapeUp, SX.evFieldAddr, SX.evField, SX.evIndexAddr, SX.evIndex, SX.evFill, SX.evBuild, SX.szs, SX.cellsV, SX.evNew, SX.evStore, SX.spliceL, SX.SV.cells, SX.evConv, SX.evSlice, SX.bnd, SX.evNil, SX.evUn, SX.evPick, SX.pickOpd, SX.popTo, SX.cnd, SX.env0, SX.TD.isAgg, SX.TD.isIface, SX.tails, SX.NotAgg, SX.evLookup, SX.evConvH, SX.evPtrEq, SX.isCells, SX.thaw, SX.frz, SX.fixB, SX.rootIx, SX.Froz, SX.frzStep, SX.fork, Go.Value.cells, Go.undef, cfg28, hci]
      refine ⟨by (unfold SX.Ob; first | trivial | omega | ((try simp only [SX.inK]); (try simp [SX.den, SX.IsU8, SX.AllP, *]); (try omega))), ?_⟩
      intro a5 w5 hr5 _
      refine post_clear (C := cfg28) cfg28_ok hr5 rfl rfl rfl rfl rfl rfl rfl rfl rfl (by decide) rfl (by omega) fun a6 w6 hr6 => ?_
      refine seg cfg28_ok mixed PanicFree.body 1000 [] [] hr6 (by first | trivial | exact HpRep.nil | assumption) (by kernel_rfl) fun s_ hs_ => ?_
      simp (maxSteps := 10000000) [SX.vc, SX.stop, SX.contS, SX.contB, SX.contW, SX.contR, SX.contD, SX.sxStep, SX.stepPure, SX.stepNew, SX.stepStore, SX.stepKeep, SX.guardIx, SX.evOp, SX.opd, SX.opds, SX.optOpd, SX.look, SX.putS, SX.gobs, SX.AllP, SX.leave, SX.lookC, SX.lookB, SX.lookT, SX.lookN, SX.findK, SX.evBuiltin, SX.ints, SX.foldI, SX.evBin, SX.evInt, SX.evStr, SX.evEq, SX.arith, SX.evLoad, SX.shapeUp, SX.evFieldAddr, SX.evField, SX.evIndexAddr, SX.evIndex, SX.evFill, SX.evBuild, SX.szs, SX.cellsV, SX.evNew, SX.evStore, SX.spliceL, SX.SV.cells, SX.evConv, SX.evSlice, SX.bnd, SX.evNil, SX.evUn, SX.evPick, SX.pickOpd, SX.popTo, SX.cnd, SX.env0, SX.TD.isAgg, SX.TD.isIface, SX.tails, SX.NotAgg, SX.evLookup, SX.evConvH, SX.evPtrEq, SX.isCells, SX.thaw, SX.frz, SX.fixB, SX.rootIx, SX.Froz, SX.frzStep, SX.fork, Go.Value.cells, Go.undef, cfg28]
      refine ⟨by (unfold SX.Ob; first | trivial | omega | ((try simp only [SX.inK]); (try simp [SX.den, SX.IsU8, SX.AllP, *]); (try omega))), ?_⟩
      intro a7 w7 hr7 _
      refine post_retn (end1 hr7 rfl rfl ⟨_, [b], rfl, ?_, by simpa using ⟨hPb, hbw⟩, hr7.keeps⟩).1
      refine .inr ⟨b, N, cap, u, _, hPb, by rw [hi]; simp [den], hc0, by omega, hc2, hr7.all.1.1, fun r hr' => ?_⟩
      rw [hi] at hr'
      rw [if_neg (by omega), hr1' r hr']

set_option maxRecDepth 100000 in
set_option maxHeartbeats 8000000 in
/-- Forget. -/
theorem forget_ok {P P2 : Nat → Prop} (w : World) (v vf : Value) (L : List Sen) (K : List Int) (hL : RdD P w v L) (hK : RdI P2 w vf K) (hC : ChkN (-1) L) (hS : SmallN L) (hn : L.length ≤ 100000) (hk : K.length ≤ 1000000000000000) : Calls Try.prog 15 (denL [.v v, .v vf]).toArray w (fun e w' => ∃ v', e = .returned v' ∧ RdD (fun x => P x ∨ w.heap.size ≤ x) w' v' (L.filter fun s => !decide (s.frm ∈ K)) ∧ Below w.heap.size w w') := by
  obtain ⟨ad, cp, rfl⟩ := hL.1.slice
  obtain ⟨ad2, cp2, rfl⟩ := hK.slice
  refine enter (F := frame0 w) Try.func15 rfl [.v (.slice ad L.length cp), .v (.slice ad2 K.length cp2)] [] (by simp [Try.f15]) trivial (keeps0 w) fun a hr => ?_
  refine seg cfg15_ok mixed PanicFree.body 1000 [] [] hr (by first | trivial | exact HpRep.nil | assumption) (by kernel_rfl) fun c hc => ?_
  simp (maxSteps := 10000000) [SX.vc, SX.stop, SX.contS, SX.contB, SX.contW, SX.contR, SX.contD, SX.sxStep, SX.stepPure, SX.stepNew, SX.stepStore, SX.stepKeep, SX.guardIx, SX.evOp, SX.opd, SX.opds, SX.optOpd, SX.look, SX.putS, SX.gobs, SX.AllP, SX.leave, SX.lookC, SX.lookB, SX.lookT, SX.lookN, SX.findK, SX.evBuiltin, SX.ints, SX.foldI, SX.evBin, SX.evInt, SX.evStr, SX.evEq, SX.arith, SX.evLoad, SX.shapeUp, SX.evFieldAddr, SX.evField, SX.evIndexAddr, SX.evIndex, SX.evFill, SX.evBuild, SX.szs, SX.cellsV, SX.evNew, SX.evStore, SX.spliceL, SX.SV.cells, SX.evConv, SX.evSlice, SX.bnd, SX.evNil, SX.evUn, SX.evPick, SX.pickOpd, SX.popTo, SX.cnd, SX.env0, SX.TD.isAgg, SX.TD.isIface, SX.tails, SX.NotAgg, SX.evLookup, SX.evConvH, SX.evPtrEq, SX.isCells, SX.thaw, SX.frz, SX.fixB, SX.rootIx, SX.Froz, SX.frzStep, SX.fork, Go.Value.cells, Go.undef, cfg15, Try.f15]
  refine ⟨by (unfold SX.Ob; first | trivial | omega | ((try simp only [SX.inK]); (try simp [SX.den, SX.IsU8, SX.AllP, *]); (try omega))), ?_⟩
  intro a1 w1 hr1 _
  have hc0 : chkN L = 0 := if_pos hC
  refine post_call 13 [.v (.slice ad L.length cp)] hr1 (by first | exact wanted_none rfl | exact wanted_zero (hr1.env.same rfl rfl rfl rfl) rfl (by simp) | exact wanted_zero (hr1.env.same rfl rfl rfl rfl) rfl (by simp [*])) rfl (callable 13 Try.func13) (check_ok w1 _ L (hL.below hr1.keeps.toBelow) hS (by omega)) ?_
  rintro e2 w2 ⟨rfl, hb2⟩
  refine ⟨_, rfl, ?_⟩
  have h2 := hr1.ret hb2 6 (.v (.int .i64 (chkN L))) rfl _ (hr1.all.below hb2) (by simp) rfl
  refine seg cfg15_ok mixed PanicFree.body 1000 [false] [] h2 (by first | trivial | exact HpRep.nil | assumption) (by kernel_rfl) fun s_ hs_ => ?_
  simp (maxSteps := 10000000) [SX.vc, SX.stop, SX.contS, SX.contB, SX.contW, SX.contR, SX.contD, SX.sxStep, SX.stepPure, SX.stepNew, SX.stepStore, SX.stepKeep, SX.guardIx, SX.evOp, SX.opd, SX.opds, SX.optOpd, SX.look, SX.putS, SX.gobs, SX.AllP, SX.leave, SX.lookC, SX.lookB, SX.lookT, SX.lookN, SX.findK, SX.evBuiltin, SX.ints, SX.foldI, SX.evBin, SX.evInt, SX.evStr, SX.evEq, SX.arith, SX.evLoad, SX.shapeUp, SX.evFieldAddr, SX.evField, SX.evIndexAddr, SX.evIndex, SX.evFill, SX.evBuild, SX.szs, SX.cellsV, SX.evNew, SX.evStore, SX.spliceL, SX.SV.cells, SX.evConv, SX.evSlice, SX.bnd, SX.evNil, SX.evUn, SX.evPick, SX.pickOpd, SX.popTo, SX.cnd, SX.env0, SX.TD.isAgg, SX.TD.isIface, SX.tails, SX.NotAgg, SX.evLookup, SX.evConvH, SX.evPtrEq, SX.isCells, SX.thaw, SX.frz, SX.fixB, SX.rootIx, SX.Froz, SX.frzStep, SX.fork, Go.Value.cells, Go.undef, cfg15, hc0]
  refine ⟨by (unfold SX.Ob; first | trivial | omega | ((try simp only [SX.inK]); (try simp [SX.den, SX.IsU8, SX.AllP, *]); (try omega))), ?_⟩
  intro a3 w3 hr3 _
  have z3 : w.heap.size ≤ w3.heap.size := hr3.keeps.size
  have hcell := hr3.all.1.1
  refine post_call 18 [.v (.slice ad L.length cp)] hr3 (by first | exact wanted_none rfl | exact wanted_zero (hr3.env.same rfl rfl rfl rfl) rfl (by simp) | exact wanted_zero (hr3.env.same rfl rfl rfl rfl) rfl (by simp [*])) rfl (callable 18 Try.func18) (Sn.clone_all w3 _ L (hL.1.below hr3.keeps.toBelow) (by omega)) ?_
  rintro e4 w4 ⟨v4, rfl, hO4, hb4⟩
  refine ⟨_, rfl, ?_⟩
  have h4 := hr3.ret hb4 9 (.v v4) rfl _ (hr3.all.below hb4) (by simp) rfl
  obtain ⟨ad4, cp4, rfl⟩ := hO4.slice
  have lc := SO.rep_lt hcell
  refine seg cfg15_ok mixed PanicFree.body 1000 [] [] h4.rebase (by first | trivial | exact HpRep.nil | assumption) (by kernel_rfl) fun s_ hs_ => ?_
  simp (maxSteps := 10000000) [SX.vc, SX.stop, SX.contS, SX.contB, SX.contW, SX.contR, SX.contD, SX.sxStep, SX.stepPure, SX.stepNew, SX.stepStore, SX.stepKeep, SX.guardIx, SX.evOp, SX.opd, SX.opds, SX.optOpd, SX.look, SX.putS, SX.gobs, SX.AllP, SX.leave, SX.lookC, SX.lookB, SX.lookT, SX.lookN, SX.findK, SX.evBuiltin, SX.ints, SX.foldI, SX.evBin, SX.evInt, SX.evStr, SX.evEq, SX.arith, SX.evLoad, SX.shapeUp, SX.evFieldAddr, SX.evField, SX.evIndexAddr, SX.evIndex, SX.evFill, SX.evBuild, SX.szs, SX.cellsV, SX.evNew, SX.evStore, SX.spliceL, SX.SV.cells, SX.evConv, SX.evSlice, SX.bnd, SX.evNil, SX.evUn, SX.evPick, SX.pickOpd, SX.popTo, SX.cnd, SX.env0, SX.TD.isAgg, SX.TD.isIface, SX.tails, SX.NotAgg, SX.evLookup, SX.evConvH, SX.evPtrEq, SX.isCells, SX.thaw, SX.frz, SX.fixB, SX.rootIx, SX.Froz, SX.frzStep, SX.fork, Go.Value.cells, Go.undef, cfg15]
  refine ⟨by (unfold SX.Ob; first | trivial | omega | ((try simp only [SX.inK]); (try simp [SX.den, SX.IsU8, SX.AllP, *]); (try omega))), ?_⟩
  intro a5 w5 hr5' _
  have hr5 := h4.unbase hr5'
  have hO5 := hO4.keep hr5'.keeps (by simp [frameAt, mutB]; omega)
  have hcell5 := hr5.all.1.1
  have z5 : w3.heap.size ≤ w5.heap.size := by
    have h1 := hb4.size
    have h2 : (frameAt w4 ([] : Hp)).w0.heap.size ≤ w5.heap.size := hr5'.keeps.size
    simp only [frameAt] at h2
    omega
  have hbel : Below w3.heap.size w3 w5 := by
    have hk : KeepsTo w4 [c] w5 := hr5'.keeps
    refine ⟨hk.os.trans hb4.os, hk.tape.trans hb4.tape, hk.output.trans hb4.output, Nat.le_trans hb4.size hk.size, fun x hx => ?_⟩
    by_cases hxc : x = c
    · subst hxc
      have h1 : w5.heap[x]? = _ := hcell5
      have h2 : w3.heap[x]? = _ := hcell
      rw [h1, h2]
    · exact (hk.block x (Nat.lt_of_lt_of_le hx hb4.size) (by simpa using hxc)).trans (hb4.block x hx)
  have hdel := delf_ok w3 w5 (.slice ad4 L.length cp4) L (fun s => decide (s.frm ∈ K)) c hO5 (by omega) hbel (fun x hx => hx) (fun w' x hb => fg_ok w' _ K x c (SO.rep_same hcell (hb.block _ lc)) ((hK.below hr3.keeps.toBelow).below hb) hk)
  refine post_call 28 [.v (.slice ad4 L.length cp4), .fn (.func 29) [] [.ptr 0 c 0]] hr5 (wanted_none rfl) rfl (callable 28 Try.func28) hdel ?_
  rintro e6 w6 ⟨v6, B, rfl, hO6, hB, hk6⟩
  refine ⟨_, rfl, ?_⟩
  have h6 := hr5.retK hk6 (fun x hx => .inl (Nat.le_trans z3 (hB x hx).1)) 11 (.v v6) rfl [] trivial (by simp) rfl
  refine seg cfg15_ok mixed PanicFree.body 1000 [] [] h6.rebase (by first | trivial | exact HpRep.nil | assumption) (by kernel_rfl) fun s_ hs_ => ?_
  simp (maxSteps := 10000000) [SX.vc, SX.stop, SX.contS, SX.contB, SX.contW, SX.contR, SX.contD, SX.sxStep, SX.stepPure, SX.stepNew, SX.stepStore, SX.stepKeep, SX.guardIx, SX.evOp, SX.opd, SX.opds, SX.optOpd, SX.look, SX.putS, SX.gobs, SX.AllP, SX.leave, SX.lookC, SX.lookB, SX.lookT, SX.lookN, SX.findK, SX.evBuiltin, SX.ints, SX.foldI, SX.evBin, SX.evInt, SX.evStr, SX.evEq, SX.arith, SX.evLoad, SX.shapeUp, SX.evFieldAddr, SX.evField, SX.evIndexAddr, SX.evIndex, SX.evFill, SX.evBuild, SX.szs, SX.cellsV, SX.evNew, SX.evStore, SX.spliceL, SX.SV.cells, SX.evConv, SX.evSlice, SX.bnd, SX.evNil, SX.evUn, SX.evPick, SX.pickOpd, SX.popTo, SX.cnd, SX.env0, SX.TD.isAgg, SX.TD.isIface, SX.tails, SX.NotAgg, SX.evLookup, SX.evConvH, SX.evPtrEq, SX.isCells, SX.thaw, SX.frz, SX.fixB, SX.rootIx, SX.Froz, SX.frzStep, SX.fork, Go.Value.cells, Go.undef, cfg15]
  refine ⟨by (unfold SX.Ob; first | trivial | omega | ((try simp only [SX.inK]); (try simp [SX.den, SX.IsU8, SX.AllP, *]); (try omega))), ?_⟩
  intro a7 w7 hr7' _
  have hr7 := h6.unbase hr7'
  have hO7 := hO6.keep hr7'.keeps (by simp [frameAt, mutB])
  refine post_retn (end1 hr7 rfl rfl ⟨v6, rfl, ⟨(hO7.rd).mono fun x _ h => .inr (by omega), fun s hs => ?_⟩, hr7.keeps.toBelow⟩).1
  have hs' : s ∈ L := (List.mem_filter.1 hs).1
  exact ((hL.2 s hs').below hr7.keeps.toBelow).mono fun x _ h => .inl h
end Go.Proofs
