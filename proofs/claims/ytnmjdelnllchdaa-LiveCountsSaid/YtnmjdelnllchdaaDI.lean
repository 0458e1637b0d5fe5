/- Live: what may be cleaned. -/
import Derived.Test.YtnmjdelnllchdaaDH
namespace Go.Proofs
set_option linter.unusedVariables false
set_option linter.unusedSimpArgs false
set_option linter.unusedSectionVars false
open Go Go.SX Go.RowKit

/-- Sorted, what is equal as it stood. -/
def StabP (key : Int → Int) (L R : List Int) : Prop := R.length = L.length ∧ (∀ c, R.filter (fun x => decide (key x = c)) = L.filter (fun x => decide (key x = c))) ∧ R.Pairwise fun x y => key x ≤ key y
theorem StabP.short {key : Int → Int} {L : List Int} (h : L.length ≤ 1) : StabP key L L := by
  refine ⟨rfl, fun _ => rfl, ?_⟩
  rcases L with _ | ⟨x, _ | ⟨y, r⟩⟩
  · exact List.Pairwise.nil
  · simp
  · simp at h
theorem StabP.mem {key : Int → Int} {L R : List Int} (h : StabP key L R) {x : Int} : x ∈ R ↔ x ∈ L := by
  have e := h.2.1 (key x)
  constructor
  · intro hx
    have : x ∈ R.filter (fun y => decide (key y = key x)) := List.mem_filter.2 ⟨hx, by simp⟩
    rw [e] at this
    exact (List.mem_filter.1 this).1
  · intro hx
    have : x ∈ L.filter (fun y => decide (key y = key x)) := List.mem_filter.2 ⟨hx, by simp⟩
    rw [← e] at this
    exact (List.mem_filter.1 this).1
theorem StabP.congr {key key' : Int → Int} {L R : List Int} (h : StabP key L R) (hk : ∀ x ∈ L, key x = key' x) : StabP key' L R := by
  have hR : ∀ x ∈ R, key x = key' x := fun x hx => hk x (h.mem.1 hx)
  refine ⟨h.1, fun c => ?_, ?_⟩
  · have e := h.2.1 c
    rw [List.filter_congr (q := fun x => decide (key' x = c)) (fun x hx => by rw [hR x hx]), List.filter_congr (q := fun x => decide (key' x = c)) (l := L) (fun x hx => by rw [hk x hx])] at e
    exact e
  · refine List.Pairwise.imp_of_mem ?_ h.2.2
    intro x y hx hy hxy
    rw [← hR x hx, ← hR y hy]
    exact hxy

set_option maxRecDepth 100000 in
set_option maxHeartbeats 16000000 in
/-- insertionSort of one thing or none. -/
theorem ins1_ok (w : World) (ad : Option Addr) (n cp c : Nat) (hn : n ≤ 1) : Calls Try.prog 76 (denL [.v (.slice ad n cp), .v (.int .i64 0), .v (.int .i64 n), .fn (.func 42) [] [.ptr 0 c 0]]).toArray w (fun e w' => e = .returned (.tuple #[]) ∧ Below w.heap.size w w') := by
  refine enter (F := frame0 w) Try.func76 rfl [.v (.slice ad n cp), .v (.int .i64 0), .v (.int .i64 n), .fn (.func 42) [] [.ptr 0 c 0]] [] (by simp [Try.f76]) trivial (keeps0 w) fun a hr => ?_
  have h1 : ¬ (1 : Int) < n := by omega
  refine seg cfg76_ok mixed PanicFree.body 1000 [] [] hr (by first | trivial | exact HpRep.nil | assumption) (by kernel_rfl) fun s_ hs_ => ?_
  simp (maxSteps := 10000000) [SX.vc, SX.stop, SX.contS, SX.contB, SX.contW, SX.contR, SX.contD, SX.sxStep, SX.stepPure, SX.stepNew, SX.stepStore, SX.stepKeep, SX.guardIx, SX.evOp, SX.opd, SX.opds, SX.optOpd, SX.look, SX.putS, SX.gobs, SX.AllP, SX.leave, SX.lookC, SX.lookB, SX.lookT, SX.lookN, SX.findK, SX.evBuiltin, SX.ints, SX.foldI, SX.evBin, SX.evInt, SX.evStr, SX.evEq, SX.arith, SX.evLoad, SX.shapeUp, SX.evFieldAddr, SX.evField, SX.evIndexAddr, SX.evIndex, SX.evFill, SX.evBuild, SX.szs, SX.cellsV, SX.evNew, SX.evStore, SX.spliceL, SX.SV.cells, SX.evConv, SX.evSlice, SX.bnd, SX.evNil, SX.evUn, SX.evPick, SX.pickOpd, SX.popTo, SX.cnd, SX.env0, SX.TD.isAgg, SX.TD.isIface, SX.tails, SX.NotAgg, SX.evLookup, SX.evConvH, SX.evPtrEq, SX.isCells, SX.thaw, SX.frz, SX.fixB, SX.rootIx, SX.Froz, SX.frzStep, SX.fork, Go.Value.cells, Go.undef, cfg76, Try.f76]
  refine ⟨by (unfold SX.Ob; first | trivial | omega | ((try simp only [SX.inK]); (try simp [SX.den, SX.IsU8, SX.AllP, *]); (try omega))), ?_⟩
  intro a1 w1 hr1 _
  refine post_loop (fun m a w' => m = 0 ∧ RepX (frame0 w) ⟨[(8, 0, .v (.int .i64 1)), (2, 0, .v (.int .i64 n))], [], 0, 0, 53, [], [], []⟩ a w') 0 ⟨rfl, hr1.re (by simp [envTo, SX.look]) trivial rfl rfl⟩ ?_
  rintro m a2 w2 ⟨rfl, hr2⟩
  refine seg cfg76_ok mixed PanicFree.body 1000 [false] [] hr2 (by first | trivial | exact HpRep.nil | assumption) (by kernel_rfl) fun s_ hs_ => ?_
  simp (maxSteps := 10000000) [SX.vc, SX.stop, SX.contS, SX.contB, SX.contW, SX.contR, SX.contD, SX.sxStep, SX.stepPure, SX.stepNew, SX.stepStore, SX.stepKeep, SX.guardIx, SX.evOp, SX.opd, SX.opds, SX.optOpd, SX.look, SX.putS, SX.gobs, SX.AllP, SX.leave, SX.lookC, SX.lookB, SX.lookT, SX.lookN, SX.findK, SX.evBuiltin, SX.ints, SX.foldI, SX.evBin, SX.evInt, SX.evStr, SX.evEq, SX.arith, SX.evLoad, SX.shapeUp, SX.evFieldAddr, SX.evField, SX.evIndexAddr, SX.evIndex, SX.evFill, SX.evBuild, SX.szs, SX.cellsV, SX.evNew, SX.evStore, SX.spliceL, SX.SV.cells, SX.evConv, SX.evSlice, SX.bnd, SX.evNil, SX.evUn, SX.evPick, SX.pickOpd, SX.popTo, SX.cnd, SX.env0, SX.TD.isAgg, SX.TD.isIface, SX.tails, SX.NotAgg, SX.evLookup, SX.evConvH, SX.evPtrEq, SX.isCells, SX.thaw, SX.frz, SX.fixB, SX.rootIx, SX.Froz, SX.frzStep, SX.fork, Go.Value.cells, Go.undef, cfg76, h1]
  refine ⟨by (unfold SX.Ob; first | trivial | omega | ((try simp only [SX.inK]); (try simp [SX.den, SX.IsU8, SX.AllP, *]); (try omega))), ?_⟩
  intro a3 w3 hr3 _
  exact post_nil (end0 hr3 rfl ⟨rfl, hr3.keeps.toBelow⟩).2

set_option maxRecDepth 100000 in
set_option maxHeartbeats 16000000 in
/-- stableCmpFunc of one thing or none. -/
theorem stable1_ok (w : World) (ad : Option Addr) (n cp c : Nat) (hn : n ≤ 1) : Calls Try.prog 60 (denL [.v (.slice ad n cp), .v (.int .i64 n), .fn (.func 42) [] [.ptr 0 c 0]]).toArray w (fun e w' => e = .returned (.tuple #[]) ∧ Below w.heap.size w w') := by
  refine enter (F := frame0 w) Try.func60 rfl [.v (.slice ad n cp), .v (.int .i64 n), .fn (.func 42) [] [.ptr 0 c 0]] [] (by simp [Try.f60]) trivial (keeps0 w) fun a hr => ?_
  have h1 : ¬ (20 : Int) ≤ n := by omega
  have h2' : ¬ (20 : Int) < n := by omega
  refine seg cfg60_ok mixed PanicFree.body 1000 [] [] hr (by first | trivial | exact HpRep.nil | assumption) (by kernel_rfl) fun s_ hs_ => ?_
  simp (maxSteps := 10000000) [SX.vc, SX.stop, SX.contS, SX.contB, SX.contW, SX.contR, SX.contD, SX.sxStep, SX.stepPure, SX.stepNew, SX.stepStore, SX.stepKeep, SX.guardIx, SX.evOp, SX.opd, SX.opds, SX.optOpd, SX.look, SX.putS, SX.gobs, SX.AllP, SX.leave, SX.lookC, SX.lookB, SX.lookT, SX.lookN, SX.findK, SX.evBuiltin, SX.ints, SX.foldI, SX.evBin, SX.evInt, SX.evStr, SX.evEq, SX.arith, SX.evLoad, SX.shapeUp, SX.evFieldAddr, SX.evField, SX.evIndexAddr, SX.evIndex, SX.evFill, SX.evBuild, SX.szs, SX.cellsV, SX.evNew, SX.evStore, SX.spliceL, SX.SV.cells, SX.evConv, SX.evSlice, SX.bnd, SX.evNil, SX.evUn, SX.evPick, SX.pickOpd, SX.popTo, SX.cnd, SX.env0, SX.TD.isAgg, SX.TD.isIface, SX.tails, SX.NotAgg, SX.evLookup, SX.evConvH, SX.evPtrEq, SX.isCells, SX.thaw, SX.frz, SX.fixB, SX.rootIx, SX.Froz, SX.frzStep, SX.fork, Go.Value.cells, Go.undef, cfg60, Try.f60]
  refine ⟨by (unfold SX.Ob; first | trivial | omega | ((try simp only [SX.inK]); (try simp [SX.den, SX.IsU8, SX.AllP, *]); (try omega))), ?_⟩
  intro a1 w1 hr1 _
  refine post_loop (fun m a w' => m = 0 ∧ RepX (frame0 w) ⟨[(6, 0, .v (.int .i64 20)), (7, 0, .v (.int .i64 0)), (8, 0, .v (.int .i64 20)), (0, 0, .v (.slice ad n cp)), (1, 0, .v (.int .i64 n)), (2, 0, .fn (.func 42) [] [.ptr 0 c 0])], [], 0, 0, 63, [], [], []⟩ a w') 0 ⟨rfl, hr1.re (by simp [envTo, SX.look]) trivial rfl rfl⟩ ?_
  rintro m a2 w2 ⟨rfl, hr2⟩
  refine seg cfg60_ok mixed PanicFree.body 1000 [false] [] hr2 (by first | trivial | exact HpRep.nil | assumption) (by kernel_rfl) fun s_ hs_ => ?_
  simp (maxSteps := 10000000) [SX.vc, SX.stop, SX.contS, SX.contB, SX.contW, SX.contR, SX.contD, SX.sxStep, SX.stepPure, SX.stepNew, SX.stepStore, SX.stepKeep, SX.guardIx, SX.evOp, SX.opd, SX.opds, SX.optOpd, SX.look, SX.putS, SX.gobs, SX.AllP, SX.leave, SX.lookC, SX.lookB, SX.lookT, SX.lookN, SX.findK, SX.evBuiltin, SX.ints, SX.foldI, SX.evBin, SX.evInt, SX.evStr, SX.evEq, SX.arith, SX.evLoad, SX.shapeUp, SX.evFieldAddr, SX.evField, SX.evIndexAddr, SX.evIndex, SX.evFill, SX.evBuild, SX.szs, SX.cellsV, SX.evNew, SX.evStore, SX.spliceL, SX.SV.cells, SX.evConv, SX.evSlice, SX.bnd, SX.evNil, SX.evUn, SX.evPick, SX.pickOpd, SX.popTo, SX.cnd, SX.env0, SX.TD.isAgg, SX.TD.isIface, SX.tails, SX.NotAgg, SX.evLookup, SX.evConvH, SX.evPtrEq, SX.isCells, SX.thaw, SX.frz, SX.fixB, SX.rootIx, SX.Froz, SX.frzStep, SX.fork, Go.Value.cells, Go.undef, cfg60, h1]
  refine ⟨by (unfold SX.Ob; first | trivial | omega | ((try simp only [SX.inK]); (try simp [SX.den, SX.IsU8, SX.AllP, *]); (try omega))), ?_⟩
  intro a3 w3 hr3 _
  refine post_call 76 [.v (.slice ad n cp), .v (.int .i64 0), .v (.int .i64 n), .fn (.func 42) [] [.ptr 0 c 0]] hr3 (by first | exact wanted_none rfl | exact wanted_zero (hr3.env.same rfl rfl rfl rfl) rfl (by simp) | exact wanted_zero (hr3.env.same rfl rfl rfl rfl) rfl (by simp [*])) rfl (callable 76 Try.func76) (ins1_ok w3 ad n cp c hn) ?_
  rintro e4 w4 ⟨rfl, hb4⟩
  refine ⟨_, rfl, ?_⟩
  have h4 := hr3.ret hb4 27 (.tu []) rfl _ (hr3.all.below hb4) (by simp) rfl
  refine seg cfg60_ok mixed PanicFree.body 1000 [] [] h4 (by first | trivial | exact HpRep.nil | assumption) (by kernel_rfl) fun s_ hs_ => ?_
  simp (maxSteps := 10000000) [SX.vc, SX.stop, SX.contS, SX.contB, SX.contW, SX.contR, SX.contD, SX.sxStep, SX.stepPure, SX.stepNew, SX.stepStore, SX.stepKeep, SX.guardIx, SX.evOp, SX.opd, SX.opds, SX.optOpd, SX.look, SX.putS, SX.gobs, SX.AllP, SX.leave, SX.lookC, SX.lookB, SX.lookT, SX.lookN, SX.findK, SX.evBuiltin, SX.ints, SX.foldI, SX.evBin, SX.evInt, SX.evStr, SX.evEq, SX.arith, SX.evLoad, SX.shapeUp, SX.evFieldAddr, SX.evField, SX.evIndexAddr, SX.evIndex, SX.evFill, SX.evBuild, SX.szs, SX.cellsV, SX.evNew, SX.evStore, SX.spliceL, SX.SV.cells, SX.evConv, SX.evSlice, SX.bnd, SX.evNil, SX.evUn, SX.evPick, SX.pickOpd, SX.popTo, SX.cnd, SX.env0, SX.TD.isAgg, SX.TD.isIface, SX.tails, SX.NotAgg, SX.evLookup, SX.evConvH, SX.evPtrEq, SX.isCells, SX.thaw, SX.frz, SX.fixB, SX.rootIx, SX.Froz, SX.frzStep, SX.fork, Go.Value.cells, Go.undef, cfg60]
  refine ⟨by (unfold SX.Ob; first | trivial | omega | ((try simp only [SX.inK]); (try simp [SX.den, SX.IsU8, SX.AllP, *]); (try omega))), ?_⟩
  intro a5 w5 hr5 _
  refine post_loop (fun m a w' => m = 0 ∧ RepX (frame0 w) ⟨[(6, 0, .v (.int .i64 20)), (1, 0, .v (.int .i64 n))], [], 0, 0, 63, [], [], []⟩ a w') 0 ⟨rfl, hr5.re (by simp [envTo, SX.look]) trivial rfl rfl⟩ ?_
  rintro m a6 w6 ⟨rfl, hr6⟩
  refine seg cfg60_ok mixed PanicFree.body 1000 [false] [] hr6 (by first | trivial | exact HpRep.nil | assumption) (by kernel_rfl) fun s_ hs_ => ?_
  simp (maxSteps := 10000000) [SX.vc, SX.stop, SX.contS, SX.contB, SX.contW, SX.contR, SX.contD, SX.sxStep, SX.stepPure, SX.stepNew, SX.stepStore, SX.stepKeep, SX.guardIx, SX.evOp, SX.opd, SX.opds, SX.optOpd, SX.look, SX.putS, SX.gobs, SX.AllP, SX.leave, SX.lookC, SX.lookB, SX.lookT, SX.lookN, SX.findK, SX.evBuiltin, SX.ints, SX.foldI, SX.evBin, SX.evInt, SX.evStr, SX.evEq, SX.arith, SX.evLoad, SX.shapeUp, SX.evFieldAddr, SX.evField, SX.evIndexAddr, SX.evIndex, SX.evFill, SX.evBuild, SX.szs, SX.cellsV, SX.evNew, SX.evStore, SX.spliceL, SX.SV.cells, SX.evConv, SX.evSlice, SX.bnd, SX.evNil, SX.evUn, SX.evPick, SX.pickOpd, SX.popTo, SX.cnd, SX.env0, SX.TD.isAgg, SX.TD.isIface, SX.tails, SX.NotAgg, SX.evLookup, SX.evConvH, SX.evPtrEq, SX.isCells, SX.thaw, SX.frz, SX.fixB, SX.rootIx, SX.Froz, SX.frzStep, SX.fork, Go.Value.cells, Go.undef, cfg60, h2']
  refine ⟨by (unfold SX.Ob; first | trivial | omega | ((try simp only [SX.inK]); (try simp [SX.den, SX.IsU8, SX.AllP, *]); (try omega))), ?_⟩
  intro a7 w7 hr7 _
  exact post_nil (end0 hr7 rfl ⟨rfl, hr7.keeps.toBelow⟩).2

set_option maxRecDepth 100000 in
set_option maxHeartbeats 16000000 in
/-- SortStableFunc of one thing or none. -/
theorem sort1_ok (w : World) (ad : Option Addr) (n cp c : Nat) (hn : n ≤ 1) : Calls Try.prog 41 (denL [.v (.slice ad n cp), .fn (.func 42) [] [.ptr 0 c 0]]).toArray w (fun e w' => e = .returned (.tuple #[]) ∧ Below w.heap.size w w') := by
  refine enter (F := frame0 w) Try.func41 rfl [.v (.slice ad n cp), .fn (.func 42) [] [.ptr 0 c 0]] [] (by simp [Try.f41]) trivial (keeps0 w) fun a hr => ?_
  refine seg cfg41_ok mixed PanicFree.body 1000 [] [] hr (by first | trivial | exact HpRep.nil | assumption) (by kernel_rfl) fun s_ hs_ => ?_
  simp (maxSteps := 10000000) [SX.vc, SX.stop, SX.contS, SX.contB, SX.contW, SX.contR, SX.contD, SX.sxStep, SX.stepPure, SX.stepNew, SX.stepStore, SX.stepKeep, SX.guardIx, SX.evOp, SX.opd, SX.opds, SX.optOpd, SX.look, SX.putS, SX.gobs, SX.AllP, SX.leave, SX.lookC, SX.lookB, SX.lookT, SX.lookN, SX.findK, SX.evBuiltin, SX.ints, SX.foldI, SX.evBin, SX.evInt, SX.evStr, SX.evEq, SX.arith, SX.evLoad, SX.shapeUp, SX.evFieldAddr, SX.evField, SX.evIndexAddr, SX.evIndex, SX.evFill, SX.evBuild, SX.szs, SX.cellsV, SX.evNew, SX.evStore, SX.spliceL, SX.SV.cells, SX.evConv, SX.evSlice, SX.bnd, SX.evNil, SX.evUn, SX.evPick, SX.pickOpd, SX.popTo, SX.cnd, SX.env0, SX.TD.isAgg, SX.TD.isIface, SX.tails, SX.NotAgg, SX.evLookup, SX.evConvH, SX.evPtrEq, SX.isCells, SX.thaw, SX.frz, SX.fixB, SX.rootIx, SX.Froz, SX.frzStep, SX.fork, Go.Value.cells, Go.undef, cfg41, Try.f41]
  refine ⟨by (unfold SX.Ob; first | trivial | omega | ((try simp only [SX.inK]); (try simp [SX.den, SX.IsU8, SX.AllP, *]); (try omega))), ?_⟩
  intro a1 w1 hr1 _
  refine post_call 60 [.v (.slice ad n cp), .v (.int .i64 n), .fn (.func 42) [] [.ptr 0 c 0]] hr1 (by first | exact wanted_none rfl | exact wanted_zero (hr1.env.same rfl rfl rfl rfl) rfl (by simp) | exact wanted_zero (hr1.env.same rfl rfl rfl rfl) rfl (by simp [*])) rfl (callable 60 Try.func60) (stable1_ok w1 ad n cp c hn) ?_
  rintro e4 w4 ⟨rfl, hb4⟩
  refine ⟨_, rfl, ?_⟩
  have h4 := hr1.ret hb4 8 (.tu []) rfl _ (hr1.all.below hb4) (by simp) rfl
  refine seg cfg41_ok mixed PanicFree.body 1000 [] [] h4 (by first | trivial | exact HpRep.nil | assumption) (by kernel_rfl) fun s_ hs_ => ?_
  simp (maxSteps := 10000000) [SX.vc, SX.stop, SX.contS, SX.contB, SX.contW, SX.contR, SX.contD, SX.sxStep, SX.stepPure, SX.stepNew, SX.stepStore, SX.stepKeep, SX.guardIx, SX.evOp, SX.opd, SX.opds, SX.optOpd, SX.look, SX.putS, SX.gobs, SX.AllP, SX.leave, SX.lookC, SX.lookB, SX.lookT, SX.lookN, SX.findK, SX.evBuiltin, SX.ints, SX.foldI, SX.evBin, SX.evInt, SX.evStr, SX.evEq, SX.arith, SX.evLoad, SX.shapeUp, SX.evFieldAddr, SX.evField, SX.evIndexAddr, SX.evIndex, SX.evFill, SX.evBuild, SX.szs, SX.cellsV, SX.evNew, SX.evStore, SX.spliceL, SX.SV.cells, SX.evConv, SX.evSlice, SX.bnd, SX.evNil, SX.evUn, SX.evPick, SX.pickOpd, SX.popTo, SX.cnd, SX.env0, SX.TD.isAgg, SX.TD.isIface, SX.tails, SX.NotAgg, SX.evLookup, SX.evConvH, SX.evPtrEq, SX.isCells, SX.thaw, SX.frz, SX.fixB, SX.rootIx, SX.Froz, SX.frzStep, SX.fork, Go.Value.cells, Go.undef, cfg41]
  refine ⟨by (unfold SX.Ob; first | trivial | omega | ((try simp only [SX.inK]); (try simp [SX.den, SX.IsU8, SX.AllP, *]); (try omega))), ?_⟩
  intro a5 w5 hr5 _
  exact post_nil (end0 hr5 rfl ⟨rfl, hr5.keeps.toBelow⟩).2

/-- What is counted of a place. -/
def keyE (C : List Int) (x : Int) : Int := nth (0 : Int) C x.toNat
/-- SortStableFunc of lists up to a length. -/
def SortC (n : Nat) : Prop := ∀ (w : World) (b N cap u : Nat) (row : Nat → List SV) (L : List Int) (c : Nat) (vc : Value) (C : List Int) (P' : Nat → Prop), 0 < L.length → L.length ≤ n → (SO.arr 0 N row 1 u (0, 0)).rep w b → L.length ≤ cap → cap ≤ N → (∀ j, j < L.length → row j = intC (nth (0 : Int) L j)) →
  (SO.cells [.v vc] 26).rep w c → c ≠ b → RdI P' w vc C → (∀ x, P' x → x ≠ b ∧ x ≠ c) → (∀ x ∈ L, 0 ≤ x ∧ x < C.length) → C.length ≤ 1000 →
  Calls Try.prog 41 (denL [.sl 0 b 0 0 L.length cap 1, .fn (.func 42) [] [.ptr 0 c 0]]).toArray w fun e w' => e = .returned (.tuple #[]) ∧ ∃ (R : List Int) (row' : Nat → List SV), StabP (keyE C) L R ∧ (SO.arr 0 N row' 1 u (0, 0)).rep w' b ∧ (∀ j, j < L.length → row' j = intC (nth (0 : Int) R j)) ∧ KeepsTo w [b] w'
theorem sortC1 : SortC 1 := fun w b N cap u row L c vc C P' h0 hn hrep hcap hN hrow hc hcb hC hP hL hC2 =>
  (sort1_ok w (some ⟨b, 0, none⟩) L.length cap c hn).mono fun e w' ⟨h1, hb⟩ => ⟨h1, L, row, StabP.short hn, SO.rep_same hrep (hb.block _ (SO.rep_lt hrep)), hrow, KeepsTo.below hb [b]⟩

def vicP (d : Dev) (L : List Ext) (K : List Int) (i : Nat) : Bool := decide ((nth zon0 d.Z i).st = 4 ∧ cntE L i < whl (nth zon0 d.Z i) ∧ (i : Int) ∉ K)
def vicK (d : Dev) (L : List Ext) (K : List Int) (k : Nat) : List Int := ((List.range k).filter (vicP d L K)).map fun (i : Nat) => (i : Int)
theorem vicK_step {d : Dev} {L : List Ext} {K : List Int} {k : Nat} : vicK d L K (k + 1) = vicK d L K k ++ (if vicP d L K k then [(k : Int)] else []) := by
  unfold vicK
  rw [List.range_succ, List.filter_append, List.map_append]
  congr 1
  by_cases h : vicP d L K k <;> simp [h]
theorem vicK_len (d : Dev) (L : List Ext) (K : List Int) (k : Nat) : (vicK d L K k).length ≤ k := by
  unfold vicK
  rw [List.length_map]
  exact Nat.le_trans (List.length_filter_le _ _) (by simp)
theorem vicK_lt {d : Dev} {L : List Ext} {K : List Int} {k : Nat} : ∀ x ∈ vicK d L K k, 0 ≤ x ∧ x < (k : Int) := by
  intro x hx
  unfold vicK at hx
  obtain ⟨i, hi, rfl⟩ := List.mem_map.1 hx
  have := List.mem_range.1 (List.mem_filter.1 hi).1
  omega
/-- What may be cleaned. -/
def vicL (d : Dev) (L : List Ext) (K : List Int) : List Int := if DevOK d ∧ Chk L then vicK d L K d.Z.length else []
def VicR (w : World) (d : Dev) (L : List Ext) (K : List Int) (e : Ending) (w' : World) : Prop := ∃ (v : Value) (R : List Int), e = .returned (den (.v v)) ∧ RdI (fun x => w.heap.size ≤ x) w' v R ∧ StabP (fun x => cntE L x.toNat) (vicL d L K) R ∧ Below w.heap.size w w'
def VicLoop (B : Nat) (F : Fr) (v v2 : Value) (d : Dev) (L : List Ext) (K : List Int) (c7 : Nat) (vc : Value) (m : Nat) (a : Act) (w' : World) : Prop :=
  ∃ (k : Nat) (vo : Value), m = d.Z.length - k ∧ k ≤ d.Z.length ∧ OwI (fun x => B ≤ x) w' vo (vicK d L K k) ∧ RepX F ⟨[(27, 0, .v (.int .i64 k)), (26, 0, .v (.int .i64 d.Z.length)), (25, 0, .v v), (2, 0, .v v2), (8, 0, .v vo), (7, 0, .ptr 0 c7 0)], [(c7, false, .cells [.v vc] 26)], 0, 0, 59, [], [], []⟩ a w'

set_option maxRecDepth 100000 in
set_option maxHeartbeats 32000000 in
/-- victims. -/
theorem victims_ok {P P' P'' : Nat → Prop} (w : World) (v vm v2 : Value) (d : Dev) (L : List Ext) (K : List Int) (hL : RdZ P w v d.Z) (hn : d.Z.length ≤ 1000000000000000) (hl : LenOK d.Z) (hM : RdE P' w vm L) (hm : L.length ≤ 1000) (hK : RdI P'' w v2 K) (hnK : K.length ≤ 1000000000000000) (hS : SortC d.Z.length) : Calls Try.prog 22 (denL [.ag (devC d v), .v vm, .v v2]).toArray w (VicR w d L K) := by
  obtain ⟨ad, cp, rfl⟩ := hL.slice
  refine enter (F := frame0 w) Try.func22 rfl [.ag (devC d (.slice ad d.Z.length cp)), .v vm, .v v2] [] (by simp [Try.f22]) trivial (keeps0 w) fun a hr => ?_
  refine seg cfg22_ok mixed PanicFree.body 1000 [] [] hr (by first | trivial | exact HpRep.nil | assumption) (by kernel_rfl) fun s3 hs3 => ?_
  simp (maxSteps := 10000000) [SX.vc, SX.stop, SX.contS, SX.contB, SX.contW, SX.contR, SX.contD, SX.sxStep, SX.stepPure, SX.stepNew, SX.stepStore, SX.stepKeep, SX.guardIx, SX.evOp, SX.opd, SX.opds, SX.optOpd, SX.look, SX.putS, SX.gobs, SX.AllP, SX.leave, SX.lookC, SX.lookB, SX.lookT, SX.lookN, SX.findK, SX.evBuiltin, SX.ints, SX.foldI, SX.evBin, SX.evInt, SX.evStr, SX.evEq, SX.arith, SX.evLoad, SX.shapeUp, SX.evFieldAddr, SX.evField, SX.evIndexAddr, SX.evIndex, SX.evFill, SX.evBuild, SX.szs, SX.cellsV, SX.evNew, SX.evStore, SX.spliceL, SX.SV.cells, SX.evConv, SX.evSlice, SX.bnd, SX.evNil, SX.evUn, SX.evPick, SX.pickOpd, SX.popTo, SX.cnd, SX.env0, SX.TD.isAgg, SX.TD.isIface, SX.tails, SX.NotAgg, SX.evLookup, SX.evConvH, SX.evPtrEq, SX.isCells, SX.thaw, SX.frz, SX.fixB, SX.rootIx, SX.Froz, SX.frzStep, SX.fork, Go.Value.cells, Go.undef, cfg22, Try.f22, devC]
  refine ⟨by (unfold SX.Ob; first | trivial | omega | ((try simp only [SX.inK]); (try simp [SX.den, SX.IsU8, SX.AllP, *]); (try omega))), ?_⟩
  intro a1 w1 hr1 _
  refine post_call 29 [.ag [.v (.int .i64 d.cap), .v (.int .i64 d.op), .v (.int .i64 d.ac), .v (.slice ad d.Z.length cp)]] hr1 (by first | exact wanted_none rfl | exact wanted_zero (hr1.env.same rfl rfl rfl rfl) rfl (by simp) | exact wanted_zero (hr1.env.same rfl rfl rfl rfl) rfl (by simp [*])) rfl (callable 29 Try.func29) (check29_ok w1 _ d (hL.below hr1.keeps.toBelow) hn hl) ?_
  rintro e2 w2 ⟨rfl, hb2⟩
  refine ⟨_, rfl, ?_⟩
  have h2 := hr1.ret hb2 12 (.v (.int .i64 (devE d))) rfl _ (hr1.all.below hb2) (by simp) rfl
  by_cases hD : DevOK d
  rotate_left
  · have hd : devE d = 1 := if_neg hD
    have hv : vicL d L K = [] := if_neg fun h => hD h.1
    refine seg cfg22_ok mixed PanicFree.body 1000 [true] [(14, true)] h2 (by first | trivial | exact HpRep.nil | assumption) (by kernel_rfl) fun s_ hs_ => ?_
    simp (maxSteps := 10000000) [SX.vc, SX.stop, SX.contS, SX.contB, SX.contW, SX.contR, SX.contD, SX.sxStep, SX.stepPure, SX.stepNew, SX.stepStore, SX.stepKeep, SX.guardIx, SX.evOp, SX.opd, SX.opds, SX.optOpd, SX.look, SX.putS, SX.gobs, SX.AllP, SX.leave, SX.lookC, SX.lookB, SX.lookT, SX.lookN, SX.findK, SX.evBuiltin, SX.ints, SX.foldI, SX.evBin, SX.evInt, SX.evStr, SX.evEq, SX.arith, SX.evLoad, SX.shapeUp, SX.evFieldAddr, SX.evField, SX.evIndexAddr, SX.evIndex, SX.evFill, SX.evBuild, SX.szs, SX.cellsV, SX.evNew, SX.evStore, SX.spliceL, SX.SV.cells, SX.evConv, SX.evSlice, SX.bnd, SX.evNil, SX.evUn, SX.evPick, SX.pickOpd, SX.popTo, SX.cnd, SX.env0, SX.TD.isAgg, SX.TD.isIface, SX.tails, SX.NotAgg, SX.evLookup, SX.evConvH, SX.evPtrEq, SX.isCells, SX.thaw, SX.frz, SX.fixB, SX.rootIx, SX.Froz, SX.frzStep, SX.fork, Go.Value.cells, Go.undef, cfg22, hd]
    refine ⟨by (unfold SX.Ob; first | trivial | omega | ((try simp only [SX.inK]); (try simp [SX.den, SX.IsU8, SX.AllP, *]); (try omega))), ?_⟩
    intro a3 w3 hr3 _
    exact post_retn (end1 hr3 rfl rfl ⟨.slice none 0 0, [], rfl, .inl ⟨rfl, _, _, rfl⟩, by rw [hv]; exact StabP.short (by simp), hr3.keeps.toBelow⟩).1
  have hd : devE d = 0 := if_pos hD
  have hz64 := hD.1.2.1
  refine seg cfg22_ok mixed PanicFree.body 1000 [] [(14, false)] h2 (by first | trivial | exact HpRep.nil | assumption) (by kernel_rfl) fun s_ hs_ => ?_
  simp (maxSteps := 10000000) [SX.vc, SX.stop, SX.contS, SX.contB, SX.contW, SX.contR, SX.contD, SX.sxStep, SX.stepPure, SX.stepNew, SX.stepStore, SX.stepKeep, SX.guardIx, SX.evOp, SX.opd, SX.opds, SX.optOpd, SX.look, SX.putS, SX.gobs, SX.AllP, SX.leave, SX.lookC, SX.lookB, SX.lookT, SX.lookN, SX.findK, SX.evBuiltin, SX.ints, SX.foldI, SX.evBin, SX.evInt, SX.evStr, SX.evEq, SX.arith, SX.evLoad, SX.shapeUp, SX.evFieldAddr, SX.evField, SX.evIndexAddr, SX.evIndex, SX.evFill, SX.evBuild, SX.szs, SX.cellsV, SX.evNew, SX.evStore, SX.spliceL, SX.SV.cells, SX.evConv, SX.evSlice, SX.bnd, SX.evNil, SX.evUn, SX.evPick, SX.pickOpd, SX.popTo, SX.cnd, SX.env0, SX.TD.isAgg, SX.TD.isIface, SX.tails, SX.NotAgg, SX.evLookup, SX.evConvH, SX.evPtrEq, SX.isCells, SX.thaw, SX.frz, SX.fixB, SX.rootIx, SX.Froz, SX.frzStep, SX.fork, Go.Value.cells, Go.undef, cfg22, hd]
  refine ⟨by (unfold SX.Ob; first | trivial | omega | ((try simp only [SX.inK]); (try simp [SX.den, SX.IsU8, SX.AllP, *]); (try omega))), ?_⟩
  intro a3 w3 hr3 _
  refine post_call 27 [.v vm] hr3 (by first | exact wanted_none rfl | exact wanted_zero (hr3.env.same rfl rfl rfl rfl) rfl (by simp) | exact wanted_zero (hr3.env.same rfl rfl rfl rfl) rfl (by simp [*])) rfl (callable 27 Try.func27) (check_ok w3 vm L (hM.below hr3.keeps.toBelow) (by omega)) ?_
  rintro e4 w4 ⟨rfl, hb4⟩
  refine ⟨_, rfl, ?_⟩
  have h4 := hr3.ret hb4 16 (.v (.int .i64 (chkE L))) rfl _ (hr3.all.below hb4) (by simp) rfl
  by_cases hC : Chk L
  rotate_left
  · have hc : chkE L = 1 := if_neg hC
    have hv : vicL d L K = [] := if_neg fun h => hC h.2
    refine seg cfg22_ok mixed PanicFree.body 1000 [true] [(14, false)] h4 (by first | trivial | exact HpRep.nil | assumption) (by kernel_rfl) fun s_ hs_ => ?_
    simp (maxSteps := 10000000) [SX.vc, SX.stop, SX.contS, SX.contB, SX.contW, SX.contR, SX.contD, SX.sxStep, SX.stepPure, SX.stepNew, SX.stepStore, SX.stepKeep, SX.guardIx, SX.evOp, SX.opd, SX.opds, SX.optOpd, SX.look, SX.putS, SX.gobs, SX.AllP, SX.leave, SX.lookC, SX.lookB, SX.lookT, SX.lookN, SX.findK, SX.evBuiltin, SX.ints, SX.foldI, SX.evBin, SX.evInt, SX.evStr, SX.evEq, SX.arith, SX.evLoad, SX.shapeUp, SX.evFieldAddr, SX.evField, SX.evIndexAddr, SX.evIndex, SX.evFill, SX.evBuild, SX.szs, SX.cellsV, SX.evNew, SX.evStore, SX.spliceL, SX.SV.cells, SX.evConv, SX.evSlice, SX.bnd, SX.evNil, SX.evUn, SX.evPick, SX.pickOpd, SX.popTo, SX.cnd, SX.env0, SX.TD.isAgg, SX.TD.isIface, SX.tails, SX.NotAgg, SX.evLookup, SX.evConvH, SX.evPtrEq, SX.isCells, SX.thaw, SX.frz, SX.fixB, SX.rootIx, SX.Froz, SX.frzStep, SX.fork, Go.Value.cells, Go.undef, cfg22, hc]
    refine ⟨by (unfold SX.Ob; first | trivial | omega | ((try simp only [SX.inK]); (try simp [SX.den, SX.IsU8, SX.AllP, *]); (try omega))), ?_⟩
    intro a5 w5 hr5 _
    exact post_retn (end1 hr5 rfl rfl ⟨.slice none 0 0, [], rfl, .inl ⟨rfl, _, _, rfl⟩, by rw [hv]; exact StabP.short (by simp), hr5.keeps.toBelow⟩).1
  have hc : chkE L = 0 := if_pos hC
  have hvl : vicL d L K = vicK d L K d.Z.length := if_pos ⟨hD, hC⟩
  refine seg cfg22_ok mixed PanicFree.body 1000 [false] [(14, false)] h4 (by first | trivial | exact HpRep.nil | assumption) (by kernel_rfl) fun s_ hs_ => ?_
  simp (maxSteps := 10000000) [SX.vc, SX.stop, SX.contS, SX.contB, SX.contW, SX.contR, SX.contD, SX.sxStep, SX.stepPure, SX.stepNew, SX.stepStore, SX.stepKeep, SX.guardIx, SX.evOp, SX.opd, SX.opds, SX.optOpd, SX.look, SX.putS, SX.gobs, SX.AllP, SX.leave, SX.lookC, SX.lookB, SX.lookT, SX.lookN, SX.findK, SX.evBuiltin, SX.ints, SX.foldI, SX.evBin, SX.evInt, SX.evStr, SX.evEq, SX.arith, SX.evLoad, SX.shapeUp, SX.evFieldAddr, SX.evField, SX.evIndexAddr, SX.evIndex, SX.evFill, SX.evBuild, SX.szs, SX.cellsV, SX.evNew, SX.evStore, SX.spliceL, SX.SV.cells, SX.evConv, SX.evSlice, SX.bnd, SX.evNil, SX.evUn, SX.evPick, SX.pickOpd, SX.popTo, SX.cnd, SX.env0, SX.TD.isAgg, SX.TD.isIface, SX.tails, SX.NotAgg, SX.evLookup, SX.evConvH, SX.evPtrEq, SX.isCells, SX.thaw, SX.frz, SX.fixB, SX.rootIx, SX.Froz, SX.frzStep, SX.fork, Go.Value.cells, Go.undef, cfg22, hc, devC]
  refine ⟨by (unfold SX.Ob; first | trivial | omega | ((try simp only [SX.inK]); (try simp [SX.den, SX.IsU8, SX.AllP, *]); (try omega))), ?_⟩
  intro a5 w5 hr5 _
  have z5 : w.heap.size ≤ w5.heap.size := hr5.keeps.size
  refine post_call 28 [.v vm, .v (.int .i64 d.Z.length)] hr5 (by first | exact wanted_none rfl | exact wanted_zero (hr5.env.same rfl rfl rfl rfl) rfl (by simp) | exact wanted_zero (hr5.env.same rfl rfl rfl rfl) rfl (by simp [*])) rfl (callable 28 Try.func28) (counts_ok w5 vm L d.Z.length (hM.below hr5.keeps.toBelow) hm hC.may hz64) ?_
  rintro e6 w6 ⟨vc, rfl, hO6, hb6⟩
  refine ⟨_, rfl, ?_⟩
  have h6 := hr5.ret hb6 23 (.v vc) rfl _ (hr5.all.below hb6) (by simp) rfl
  obtain ⟨adc, cpc, hvc⟩ := hO6.slice
  rw [cnts_len] at hvc
  subst hvc
  refine seg cfg22_ok mixed PanicFree.body 1000 [] [] h6.rebase (by first | trivial | exact HpRep.nil | assumption) (by kernel_rfl) fun c7 hc7 => ?_
  simp (maxSteps := 10000000) [SX.vc, SX.stop, SX.contS, SX.contB, SX.contW, SX.contR, SX.contD, SX.sxStep, SX.stepPure, SX.stepNew, SX.stepStore, SX.stepKeep, SX.guardIx, SX.evOp, SX.opd, SX.opds, SX.optOpd, SX.look, SX.putS, SX.gobs, SX.AllP, SX.leave, SX.lookC, SX.lookB, SX.lookT, SX.lookN, SX.findK, SX.evBuiltin, SX.ints, SX.foldI, SX.evBin, SX.evInt, SX.evStr, SX.evEq, SX.arith, SX.evLoad, SX.shapeUp, SX.evFieldAddr, SX.evField, SX.evIndexAddr, SX.evIndex, SX.evFill, SX.evBuild, SX.szs, SX.cellsV, SX.evNew, SX.evStore, SX.spliceL, SX.SV.cells, SX.evConv, SX.evSlice, SX.bnd, SX.evNil, SX.evUn, SX.evPick, SX.pickOpd, SX.popTo, SX.cnd, SX.env0, SX.TD.isAgg, SX.TD.isIface, SX.tails, SX.NotAgg, SX.evLookup, SX.evConvH, SX.evPtrEq, SX.isCells, SX.thaw, SX.frz, SX.fixB, SX.rootIx, SX.Froz, SX.frzStep, SX.fork, Go.Value.cells, Go.undef, cfg22, devC]
  refine ⟨by (unfold SX.Ob; first | trivial | omega | ((try simp only [SX.inK]); (try simp [SX.den, SX.IsU8, SX.AllP, *]); (try omega))), ?_⟩
  intro a7 w7 hr7' _
  have hr7a := h6.unbase hr7'
  have k3 := SO.rep_lt hr5.all.1.1
  have z67 : w6.heap.size ≤ w7.heap.size := hr7'.keeps.size
  have z56 : w5.heap.size ≤ w6.heap.size := hb6.size
  have hO7 := hO6.keep hr7'.keeps (by simp [frameAt, mutB]; omega)
  have hb7 := hr7a.keeps.toBelow
  have hr7b := hr7a.see _ (HpAll.imm hr7a.all)
  simp only [List.map_cons, List.map_nil] at hr7b
  have hA7 := hr7b.all
  have k7 := SO.rep_lt hA7.2.1.1
  have hzl : (d.Z.length : Int) ≤ 64 := by omega
  refine post_loop (VicLoop w7.heap.size _ (.slice ad d.Z.length cp) v2 d L K c7 (.slice adc d.Z.length cpc)) d.Z.length ⟨0, .slice none 0 0, rfl, by omega, OwS.nil, hr7b.rebase.re (by simp [envTo, SX.look, den]) ⟨⟨hA7.2.1.1, by simp, by simp⟩, trivial⟩ rfl rfl⟩ ?_
  rintro m a8 w8 ⟨k, vo, rfl, hk, hO, hr8⟩
  have hb8 := hr8.keeps.toBelow
  have z8 : w7.heap.size ≤ w8.heap.size := hr8.keeps.size
  have hvl2 := vicK_len d L K k
  by_cases hlt : k < d.Z.length
  · obtain ⟨b, o0, cap, u, fz, hP, hv, hrep⟩ := hL.opn hlt
    obtain ⟨bc, oc, capc, uc, fzc, hPc, hvc, hrepc⟩ := hO6.opn (show k < (cnts L d.Z.length).length by rw [cnts_len]; exact hlt)
    cases hv
    rw [cnts_len] at hvc
    cases hvc
    have hbw := SO.rep_lt hrep
    have hbc6 := SO.rep_lt hrepc
    have hrep7 := SO.rep_same hrep (hb7.block _ hbw)
    have hrep8 := SO.rep_same hrep7 (hb8.block _ (SO.rep_lt hrep7))
    have hrepc7 := KeepsTo.same hr7'.keeps hrepc (by simp [frameAt, mutB]; omega)
    have hrepc8 := SO.rep_same hrepc7 (hb8.block _ (SO.rep_lt hrepc7))
    obtain ⟨x, hx⟩ : ∃ x, nth zon0 d.Z k = x := ⟨_, rfl⟩
    have hxm : x ∈ d.Z := hx ▸ nth_mem hlt
    have hxn := hl x hxm
    have hrc : nth (0 : Int) (cnts L d.Z.length) k = cntE L k := nth_cnts hlt
    obtain ⟨c, hce⟩ : ∃ c, cntE L k = c := ⟨_, rfl⟩
    rw [hce] at hrc
    have hO8 := hO.mono (P' := fun x => w7.heap.size ≤ x ∧ x < w8.heap.size) fun x h1 h2 => ⟨h2, h1⟩
    have hA8 := hr8.all.1
    have hst := vicK_step (d := d) (L := L) (K := K) (k := k)
    have hkc : k < (cnts L d.Z.length).length := by rw [cnts_len]; exact hlt
    have hcl := cnts_len L d.Z.length
    have h9 := (hr8.top 25 (.sl 1 b o0 0 d.Z.length cp 3) rfl (by simp [den])).see [(c7, false, .cells [.sl 2 bc oc 0 d.Z.length cpc 1] 26), (b, false, .arr o0 d.Z.length (fun j => znC (nth zon0 d.Z j)) 3 u fz), (bc, false, .arr oc (cnts L d.Z.length).length (fun j => intC (nth (0 : Int) (cnts L d.Z.length) j)) 1 uc fzc)] ⟨⟨by simpa [SO.rep, denL, den] using hA8.1, by simp, by simp; omega⟩, ⟨hrep8, by simp, by simp; omega⟩, HpAll.one hrepc8⟩
    by_cases hx4 : x.st = 4
    rotate_left
    · rw [show vicP d L K k = false by simp [vicP, hx, hx4]] at hst
      simp only [Bool.false_eq_true, if_false, List.append_nil] at hst
      refine seg cfg22_ok mixed PanicFree.body 1000 [true, false] [(35, false), (44, false)] h9.rebase (by first | trivial | exact HpRep.nil | assumption) (by kernel_rfl) fun s_ hs_ => ?_
      simp (maxSteps := 10000000) [SX.vc, SX.stop, SX.contS, SX.contB, SX.contW, SX.contR, SX.contD, SX.sxStep, SX.stepPure, SX.stepNew, SX.stepStore, SX.stepKeep, SX.guardIx, SX.evOp, SX.opd, SX.opds, SX.optOpd, SX.look, SX.putS, SX.gobs, SX.AllP, SX.leave, SX.lookC, SX.lookB, SX.lookT, SX.lookN, SX.findK, SX.evBuiltin, SX.ints, SX.foldI, SX.evBin, SX.evInt, SX.evStr, SX.evEq, SX.arith, SX.evLoad, SX.shapeUp, SX.evFieldAddr, SX.evField, SX.evIndexAddr, SX.evIndex, SX.evFill, SX.evBuild, SX.szs, SX.cellsV, SX.evNew, SX.evStore, SX.spliceL, SX.SV.cells, SX.evConv, SX.evSlice, SX.bnd, SX.evNil, SX.evUn, SX.evPick, SX.pickOpd, SX.popTo, SX.cnd, SX.env0, SX.TD.isAgg, SX.TD.isIface, SX.tails, SX.NotAgg, SX.evLookup, SX.evConvH, SX.evPtrEq, SX.isCells, SX.thaw, SX.frz, SX.fixB, SX.rootIx, SX.Froz, SX.frzStep, SX.fork, Go.Value.cells, Go.undef, cfg22, znC, hx, hx4]
      refine ⟨by (unfold SX.Ob; first | trivial | omega | ((try simp only [SX.inK]); (try simp [SX.den, SX.IsU8, SX.AllP, *]); (try omega))), ?_⟩
      intro a10 w10 hr10' _
      have hr10 := h9.unbase hr10'
      exact post_rnd (d.Z.length - (k + 1)) (by omega) ⟨k + 1, vo, rfl, by omega, by rw [hst]; exact hO.keep hr10'.keeps (by simp [frameAt, mutB]), hr10.re (by simp [envTo, SX.look, den]) ⟨⟨by simpa [SO.rep, denL, den] using hr10.all.1.1, by simp, by simp⟩, trivial⟩ rfl rfl⟩
    obtain ⟨xst, xfe, xad, xn, xcp⟩ := x
    simp only at hx4
    subst hx4
    refine seg cfg22_ok mixed PanicFree.body 1000 [true] [(35, true)] h9.rebase (by first | trivial | exact HpRep.nil | assumption) (by kernel_rfl) fun sC hsC => ?_
    simp (maxSteps := 10000000) [SX.vc, SX.stop, SX.contS, SX.contB, SX.contW, SX.contR, SX.contD, SX.sxStep, SX.stepPure, SX.stepNew, SX.stepStore, SX.stepKeep, SX.guardIx, SX.evOp, SX.opd, SX.opds, SX.optOpd, SX.look, SX.putS, SX.gobs, SX.AllP, SX.leave, SX.lookC, SX.lookB, SX.lookT, SX.lookN, SX.findK, SX.evBuiltin, SX.ints, SX.foldI, SX.evBin, SX.evInt, SX.evStr, SX.evEq, SX.arith, SX.evLoad, SX.shapeUp, SX.evFieldAddr, SX.evField, SX.evIndexAddr, SX.evIndex, SX.evFill, SX.evBuild, SX.szs, SX.cellsV, SX.evNew, SX.evStore, SX.spliceL, SX.SV.cells, SX.evConv, SX.evSlice, SX.bnd, SX.evNil, SX.evUn, SX.evPick, SX.pickOpd, SX.popTo, SX.cnd, SX.env0, SX.TD.isAgg, SX.TD.isIface, SX.tails, SX.NotAgg, SX.evLookup, SX.evConvH, SX.evPtrEq, SX.isCells, SX.thaw, SX.frz, SX.fixB, SX.rootIx, SX.Froz, SX.frzStep, SX.fork, Go.Value.cells, Go.undef, cfg22, znC, hx, intC, hrc, hcl]
    refine ⟨by (unfold SX.Ob; first | trivial | omega | ((try simp only [SX.inK]); (try simp [SX.den, SX.IsU8, SX.AllP, *]); (try omega))), ?_⟩
    intro a10 w10 hr10' ht10
    have hr10 := h9.unbase hr10'
    have z10 : w8.heap.size ≤ w10.heap.size := hr10'.keeps.size
    have hO10 := hO8.keep hr10'.keeps (by simp [frameAt, mutB])
    refine post_callD 30 [.ag [.v (.int .i64 4), .v (.int .i64 xfe), .v (.slice xad xn xcp)]] hr10 rfl (by first | exact wanted_none rfl | exact wanted_zero (hr10.env.same rfl rfl rfl rfl) rfl (by simp) | exact wanted_zero (hr10.env.same rfl rfl rfl rfl) rfl (by simp [*])) rfl (callable 30 Try.func30) (whole_ok w10 ⟨4, xfe, xad, xn, xcp⟩ hxn) ?_
    rintro e11 w11 ⟨rfl, hb11⟩
    have ht11 := HpRep_below ht10 hb11
    refine ⟨_, rfl, ht11, ?_⟩
    have hr11 := hr10.ret hb11 41 (.v (.int .i64 (whl ⟨4, xfe, xad, xn, xcp⟩))) rfl _ (hr10.all.below hb11) (by simp) rfl
    have hO11 := hO10.below hb11
    by_cases hcw : c < whl ⟨4, xfe, xad, xn, xcp⟩
    rotate_left
    · rw [show vicP d L K k = false by simp [vicP, hx, hce, hcw]] at hst
      simp only [Bool.false_eq_true, if_false, List.append_nil] at hst
      refine seg cfg22_ok mixed PanicFree.body 1000 [false] [(35, true), (44, false)] hr11.rebase (by first | trivial | exact HpRep.nil | assumption) (by kernel_rfl) fun s_ hs_ => ?_
      simp (maxSteps := 10000000) [SX.vc, SX.stop, SX.contS, SX.contB, SX.contW, SX.contR, SX.contD, SX.sxStep, SX.stepPure, SX.stepNew, SX.stepStore, SX.stepKeep, SX.guardIx, SX.evOp, SX.opd, SX.opds, SX.optOpd, SX.look, SX.putS, SX.gobs, SX.AllP, SX.leave, SX.lookC, SX.lookB, SX.lookT, SX.lookN, SX.findK, SX.evBuiltin, SX.ints, SX.foldI, SX.evBin, SX.evInt, SX.evStr, SX.evEq, SX.arith, SX.evLoad, SX.shapeUp, SX.evFieldAddr, SX.evField, SX.evIndexAddr, SX.evIndex, SX.evFill, SX.evBuild, SX.szs, SX.cellsV, SX.evNew, SX.evStore, SX.spliceL, SX.SV.cells, SX.evConv, SX.evSlice, SX.bnd, SX.evNil, SX.evUn, SX.evPick, SX.pickOpd, SX.popTo, SX.cnd, SX.env0, SX.TD.isAgg, SX.TD.isIface, SX.tails, SX.NotAgg, SX.evLookup, SX.evConvH, SX.evPtrEq, SX.isCells, SX.thaw, SX.frz, SX.fixB, SX.rootIx, SX.Froz, SX.frzStep, SX.fork, Go.Value.cells, Go.undef, cfg22, hcw]
      refine ⟨by (unfold SX.Ob; first | trivial | omega | ((try simp only [SX.inK]); (try simp [SX.den, SX.IsU8, SX.AllP, *]); (try omega))), ?_⟩
      intro a12 w12 hr12' _
      have hr12 := hr11.unbase hr12'
      exact post_rnd (d.Z.length - (k + 1)) (by omega) ⟨k + 1, vo, rfl, by omega, by rw [hst]; exact (hO11.keep hr12'.keeps (by simp [frameAt, mutB]; omega)).mono fun x _ h => h.1, hr12.re (by simp [envTo, SX.look, den]) ⟨⟨by simpa [SO.rep, denL, den] using hr12.all.1.1, by simp, by simp⟩, trivial⟩ rfl rfl⟩
    refine seg cfg22_ok mixed PanicFree.body 1000 [] [(35, true), (44, true)] hr11.rebase (by first | trivial | exact HpRep.nil | assumption) (by kernel_rfl) fun s_ hs_ => ?_
    simp (maxSteps := 10000000) [SX.vc, SX.stop, SX.contS, SX.contB, SX.contW, SX.contR, SX.contD, SX.sxStep, SX.stepPure, SX.stepNew, SX.stepStore, SX.stepKeep, SX.guardIx, SX.evOp, SX.opd, SX.opds, SX.optOpd, SX.look, SX.putS, SX.gobs, SX.AllP, SX.leave, SX.lookC, SX.lookB, SX.lookT, SX.lookN, SX.findK, SX.evBuiltin, SX.ints, SX.foldI, SX.evBin, SX.evInt, SX.evStr, SX.evEq, SX.arith, SX.evLoad, SX.shapeUp, SX.evFieldAddr, SX.evField, SX.evIndexAddr, SX.evIndex, SX.evFill, SX.evBuild, SX.szs, SX.cellsV, SX.evNew, SX.evStore, SX.spliceL, SX.SV.cells, SX.evConv, SX.evSlice, SX.bnd, SX.evNil, SX.evUn, SX.evPick, SX.pickOpd, SX.popTo, SX.cnd, SX.env0, SX.TD.isAgg, SX.TD.isIface, SX.tails, SX.NotAgg, SX.evLookup, SX.evConvH, SX.evPtrEq, SX.isCells, SX.thaw, SX.frz, SX.fixB, SX.rootIx, SX.Froz, SX.frzStep, SX.fork, Go.Value.cells, Go.undef, cfg22, hcw]
    refine ⟨by (unfold SX.Ob; first | trivial | omega | ((try simp only [SX.inK]); (try simp [SX.den, SX.IsU8, SX.AllP, *]); (try omega))), ?_⟩
    intro a12 w12 hr12' ht12
    have hr12 := hr11.unbase hr12'
    have hO12 := hO11.keep hr12'.keeps (by simp [frameAt, mutB]; omega)
    refine post_callD 31 [.v v2, .v (.int .i64 k)] hr12 rfl (by first | exact wanted_none rfl | exact wanted_zero (hr12.env.same rfl rfl rfl rfl) rfl (by simp) | exact wanted_zero (hr12.env.same rfl rfl rfl rfl) rfl (by simp [*])) rfl (callable 31 Try.func31) (contains_ok w12 v2 K k ((hK.below hb7).below hr12.keeps.toBelow) hnK) ?_
    rintro e13 w13 ⟨rfl, hb13⟩
    have ht13 := HpRep_below ht12 hb13
    refine ⟨_, rfl, ht13, ?_⟩
    have hr13 := hr12.ret hb13 47 (.v (.bool (decide ((k : Int) ∈ K)))) rfl _ (hr12.all.below hb13) (by simp) rfl
    have hO13 := hO12.below hb13
    by_cases hin : (k : Int) ∈ K
    · rw [show vicP d L K k = false by simp [vicP, hin]] at hst
      simp only [Bool.false_eq_true, if_false, List.append_nil] at hst
      refine seg cfg22_ok mixed PanicFree.body 1000 [false] [(35, true), (44, true)] hr13.rebase (by first | trivial | exact HpRep.nil | assumption) (by kernel_rfl) fun s_ hs_ => ?_
      simp (maxSteps := 10000000) [SX.vc, SX.stop, SX.contS, SX.contB, SX.contW, SX.contR, SX.contD, SX.sxStep, SX.stepPure, SX.stepNew, SX.stepStore, SX.stepKeep, SX.guardIx, SX.evOp, SX.opd, SX.opds, SX.optOpd, SX.look, SX.putS, SX.gobs, SX.AllP, SX.leave, SX.lookC, SX.lookB, SX.lookT, SX.lookN, SX.findK, SX.evBuiltin, SX.ints, SX.foldI, SX.evBin, SX.evInt, SX.evStr, SX.evEq, SX.arith, SX.evLoad, SX.shapeUp, SX.evFieldAddr, SX.evField, SX.evIndexAddr, SX.evIndex, SX.evFill, SX.evBuild, SX.szs, SX.cellsV, SX.evNew, SX.evStore, SX.spliceL, SX.SV.cells, SX.evConv, SX.evSlice, SX.bnd, SX.evNil, SX.evUn, SX.evPick, SX.pickOpd, SX.popTo, SX.cnd, SX.env0, SX.TD.isAgg, SX.TD.isIface, SX.tails, SX.NotAgg, SX.evLookup, SX.evConvH, SX.evPtrEq, SX.isCells, SX.thaw, SX.frz, SX.fixB, SX.rootIx, SX.Froz, SX.frzStep, SX.fork, Go.Value.cells, Go.undef, cfg22, hin]
      refine ⟨by (unfold SX.Ob; first | trivial | omega | ((try simp only [SX.inK]); (try simp [SX.den, SX.IsU8, SX.AllP, *]); (try omega))), ?_⟩
      intro a14 w14 hr14' _
      have hr14 := hr13.unbase hr14'
      exact post_rnd (d.Z.length - (k + 1)) (by omega) ⟨k + 1, vo, rfl, by omega, by rw [hst]; exact (hO13.keep hr14'.keeps (by simp [frameAt, mutB]; omega)).mono fun x _ h => h.1, hr14.re (by simp [envTo, SX.look, den]) ⟨⟨by simpa [SO.rep, denL, den] using hr14.all.1.1, by simp, by simp⟩, trivial⟩ rfl rfl⟩
    · rw [show vicP d L K k = true by simp [vicP, hin, hx, hce, hcw], if_pos rfl] at hst
      refine seg cfg22_ok mixed PanicFree.body 1000 [true] [(35, true), (44, true)] hr13.rebase (by first | trivial | exact HpRep.nil | assumption) (by kernel_rfl) fun s_ hs_ => ?_
      simp (maxSteps := 10000000) [SX.vc, SX.stop, SX.contS, SX.contB, SX.contW, SX.contR, SX.contD, SX.sxStep, SX.stepPure, SX.stepNew, SX.stepStore, SX.stepKeep, SX.guardIx, SX.evOp, SX.opd, SX.opds, SX.optOpd, SX.look, SX.putS, SX.gobs, SX.AllP, SX.leave, SX.lookC, SX.lookB, SX.lookT, SX.lookN, SX.findK, SX.evBuiltin, SX.ints, SX.foldI, SX.evBin, SX.evInt, SX.evStr, SX.evEq, SX.arith, SX.evLoad, SX.shapeUp, SX.evFieldAddr, SX.evField, SX.evIndexAddr, SX.evIndex, SX.evFill, SX.evBuild, SX.szs, SX.cellsV, SX.evNew, SX.evStore, SX.spliceL, SX.SV.cells, SX.evConv, SX.evSlice, SX.bnd, SX.evNil, SX.evUn, SX.evPick, SX.pickOpd, SX.popTo, SX.cnd, SX.env0, SX.TD.isAgg, SX.TD.isIface, SX.tails, SX.NotAgg, SX.evLookup, SX.evConvH, SX.evPtrEq, SX.isCells, SX.thaw, SX.frz, SX.fixB, SX.rootIx, SX.Froz, SX.frzStep, SX.fork, Go.Value.cells, Go.undef, cfg22, hin]
      refine ⟨by (unfold SX.Ob; first | trivial | omega | ((try simp only [SX.inK]); (try simp [SX.den, SX.IsU8, SX.AllP, *]); (try omega))), ?_⟩
      intro a14 w14 hr14' _
      have hr14 := hr13.unbase hr14'
      have z14 : w7.heap.size ≤ w14.heap.size := hr14.keeps.size
      have hO14 := (hO13.keep hr14'.keeps (by simp [frameAt, mutB]; omega)).mono (P' := fun x => w7.heap.size ≤ x) fun x _ h => h.1
      have hA14 := hr14.all.1
      have hc714 := SO.rep_lt hA14.1
      refine post_app (C := cfg22) cfg22_ok hr14 (by first | exact wanted_none rfl | exact wanted_zero (hr14.env.same rfl rfl rfl rfl) rfl (by simp)) rfl (by simp) rfl rfl rfl rfl rfl rfl rfl rfl rfl (by decide) (flatI _) (by (try simp only [List.length_append, List.length_cons, List.length_nil, List.length_map, List.length_take]); omega) (fun x hx => Nat.le_trans z14 hx) hO14 (RdS.lit (enc := intC) (sz := 1) (d := (0 : Int)) (x := (k : Int)) hr14.all.2.2.2.2.1.1 (by simp [intC])) [(c7, false, .cells [.v (.slice (some ⟨bc, oc, none⟩) d.Z.length cpc)] 26)] (fun w' B hk hB => ⟨⟨KeepsTo.same hk (by simpa [SO.rep, denL, den] using hA14.1) (fun h => absurd (hB _ h).1 (by omega)), by simp, by simp⟩, trivial⟩) (fun x hx => .inl hx) fun V15 a15 w15 B15 hO15 hB15 hk15 hr15 => ?_
      refine seg cfg22_ok mixed PanicFree.body 1000 [] [] hr15.rebase (by first | trivial | exact HpRep.nil | assumption) (by kernel_rfl) fun s_ hs_ => ?_
      simp (maxSteps := 10000000) [SX.vc, SX.stop, SX.contS, SX.contB, SX.contW, SX.contR, SX.contD, SX.sxStep, SX.stepPure, SX.stepNew, SX.stepStore, SX.stepKeep, SX.guardIx, SX.evOp, SX.opd, SX.opds, SX.optOpd, SX.look, SX.putS, SX.gobs, SX.AllP, SX.leave, SX.lookC, SX.lookB, SX.lookT, SX.lookN, SX.findK, SX.evBuiltin, SX.ints, SX.foldI, SX.evBin, SX.evInt, SX.evStr, SX.evEq, SX.arith, SX.evLoad, SX.shapeUp, SX.evFieldAddr, SX.evField, SX.evIndexAddr, SX.evIndex, SX.evFill, SX.evBuild, SX.szs, SX.cellsV, SX.evNew, SX.evStore, SX.spliceL, SX.SV.cells, SX.evConv, SX.evSlice, SX.bnd, SX.evNil, SX.evUn, SX.evPick, SX.pickOpd, SX.popTo, SX.cnd, SX.env0, SX.TD.isAgg, SX.TD.isIface, SX.tails, SX.NotAgg, SX.evLookup, SX.evConvH, SX.evPtrEq, SX.isCells, SX.thaw, SX.frz, SX.fixB, SX.rootIx, SX.Froz, SX.frzStep, SX.fork, Go.Value.cells, Go.undef, cfg22]
      refine ⟨by (unfold SX.Ob; first | trivial | omega | ((try simp only [SX.inK]); (try simp [SX.den, SX.IsU8, SX.AllP, *]); (try omega))), ?_⟩
      intro a16 w16 hr16' _
      have hr16 := hr15.unbase hr16'
      exact post_rnd (d.Z.length - (k + 1)) (by omega) ⟨k + 1, V15, rfl, by omega, by rw [hst]; exact hO15.keep hr16'.keeps (by simp [frameAt, mutB]), hr16.re (by simp [envTo, SX.look, den]) (hr16.all.take 1) rfl rfl⟩
  · obtain rfl : k = d.Z.length := by omega
    refine seg cfg22_ok mixed PanicFree.body 1000 [false] [] hr8.rebase (by first | trivial | exact HpRep.nil | assumption) (by kernel_rfl) fun s_ hs_ => ?_
    simp (maxSteps := 10000000) [SX.vc, SX.stop, SX.contS, SX.contB, SX.contW, SX.contR, SX.contD, SX.sxStep, SX.stepPure, SX.stepNew, SX.stepStore, SX.stepKeep, SX.guardIx, SX.evOp, SX.opd, SX.opds, SX.optOpd, SX.look, SX.putS, SX.gobs, SX.AllP, SX.leave, SX.lookC, SX.lookB, SX.lookT, SX.lookN, SX.findK, SX.evBuiltin, SX.ints, SX.foldI, SX.evBin, SX.evInt, SX.evStr, SX.evEq, SX.arith, SX.evLoad, SX.shapeUp, SX.evFieldAddr, SX.evField, SX.evIndexAddr, SX.evIndex, SX.evFill, SX.evBuild, SX.szs, SX.cellsV, SX.evNew, SX.evStore, SX.spliceL, SX.SV.cells, SX.evConv, SX.evSlice, SX.bnd, SX.evNil, SX.evUn, SX.evPick, SX.pickOpd, SX.popTo, SX.cnd, SX.env0, SX.TD.isAgg, SX.TD.isIface, SX.tails, SX.NotAgg, SX.evLookup, SX.evConvH, SX.evPtrEq, SX.isCells, SX.thaw, SX.frz, SX.fixB, SX.rootIx, SX.Froz, SX.frzStep, SX.fork, Go.Value.cells, Go.undef, cfg22]
    refine ⟨by (unfold SX.Ob; first | trivial | omega | ((try simp only [SX.inK]); (try simp [SX.den, SX.IsU8, SX.AllP, *]); (try omega))), ?_⟩
    intro a9 w9 hr9' _
    have hr9 := hr8.unbase hr9'
    have hO9 := hO.keep hr9'.keeps (by simp [frameAt, mutB])
    have z9 : w7.heap.size ≤ w9.heap.size := hr9.keeps.size
    have hkey : ∀ x ∈ vicK d L K d.Z.length, keyE (cnts L d.Z.length) x = cntE L x.toNat := fun x hx => by
      have := vicK_lt x hx
      exact nth_cnts (by omega)
    rcases Nat.eq_zero_or_pos (vicK d L K d.Z.length).length with h0 | h0
    · have hnil : vicK d L K d.Z.length = [] := List.eq_nil_of_length_eq_zero h0
      rw [hnil] at hO9
      obtain ⟨adv, cpv, rfl⟩ := hO9.slice
      refine post_call 41 [.v (.slice adv ([] : List Int).length cpv), .fn (.func 42) [] [.ptr 0 c7 0]] hr9 (by first | exact wanted_none rfl | exact wanted_zero (hr9.env.same rfl rfl rfl rfl) rfl (by simp) | exact wanted_zero (hr9.env.same rfl rfl rfl rfl) rfl (by simp [*])) rfl (callable 41 Try.func41) (sort1_ok w9 adv ([] : List Int).length cpv c7 (by simp)) ?_
      rintro e10 w10 ⟨rfl, hb10⟩
      refine ⟨_, rfl, ?_⟩
      have h10 := hr9.ret hb10 57 (.tu []) rfl _ (hr9.all.below hb10) (by simp) rfl
      refine seg cfg22_ok mixed PanicFree.body 1000 [] [] h10 (by first | trivial | exact HpRep.nil | assumption) (by kernel_rfl) fun s_ hs_ => ?_
      simp (maxSteps := 10000000) [SX.vc, SX.stop, SX.contS, SX.contB, SX.contW, SX.contR, SX.contD, SX.sxStep, SX.stepPure, SX.stepNew, SX.stepStore, SX.stepKeep, SX.guardIx, SX.evOp, SX.opd, SX.opds, SX.optOpd, SX.look, SX.putS, SX.gobs, SX.AllP, SX.leave, SX.lookC, SX.lookB, SX.lookT, SX.lookN, SX.findK, SX.evBuiltin, SX.ints, SX.foldI, SX.evBin, SX.evInt, SX.evStr, SX.evEq, SX.arith, SX.evLoad, SX.shapeUp, SX.evFieldAddr, SX.evField, SX.evIndexAddr, SX.evIndex, SX.evFill, SX.evBuild, SX.szs, SX.cellsV, SX.evNew, SX.evStore, SX.spliceL, SX.SV.cells, SX.evConv, SX.evSlice, SX.bnd, SX.evNil, SX.evUn, SX.evPick, SX.pickOpd, SX.popTo, SX.cnd, SX.env0, SX.TD.isAgg, SX.TD.isIface, SX.tails, SX.NotAgg, SX.evLookup, SX.evConvH, SX.evPtrEq, SX.isCells, SX.thaw, SX.frz, SX.fixB, SX.rootIx, SX.Froz, SX.frzStep, SX.fork, Go.Value.cells, Go.undef, cfg22]
      refine ⟨by (unfold SX.Ob; first | trivial | omega | ((try simp only [SX.inK]); (try simp [SX.den, SX.IsU8, SX.AllP, *]); (try omega))), ?_⟩
      intro a11 w11 hr11' _
      have hr11 := hr7b.unbase hr11'
      exact post_retn (end1 hr11 rfl rfl ⟨.slice adv 0 cpv, [], rfl, .inl ⟨rfl, _, _, rfl⟩, by rw [hvl, hnil]; exact StabP.short (by simp), hr11.keeps.toBelow⟩).1
    · obtain ⟨bo, No, capo, uo, rowo, hPo, rfl, hq0, hq1, hq2, hrepo, hrowo⟩ := hO9.opn h0
      have hC9 := (hO7.below hr9.keeps.toBelow)
      have hC9' : RdI (fun x => w5.heap.size ≤ x ∧ x < w6.heap.size) w9 (.slice adc d.Z.length cpc) (cnts L d.Z.length) := ((hO6.mono (P' := fun x => w5.heap.size ≤ x ∧ x < w6.heap.size) fun x h1 h2 => ⟨h2, h1⟩).keep hr7'.keeps (by simp [frameAt, mutB]; omega)).below hr9.keeps.toBelow
      have hsc := hS w9 bo No capo uo rowo (vicK d L K d.Z.length) c7 (.slice adc d.Z.length cpc) (cnts L d.Z.length) _ h0 (by omega) hrepo hq1 hq2 hrowo hr9.all.1.1 (by omega) hC9' (fun x hx => ⟨by omega, by omega⟩) (fun x hx => by
        have := vicK_lt x hx
        rw [cnts_len]
        exact this) (by rw [cnts_len]; omega)
      refine post_call 41 [.v (.slice (some ⟨bo, 0, none⟩) (vicK d L K d.Z.length).length capo), .fn (.func 42) [] [.ptr 0 c7 0]] hr9 (wanted_none rfl) rfl (callable 41 Try.func41) hsc ?_
      rintro e10 w10 ⟨rfl, R, row', hSt, hrepR, hrowR, hk10⟩
      refine ⟨_, rfl, ?_⟩
      have h10 := hr9.retK hk10 (fun x hx => .inl (by
        simp only [List.mem_singleton] at hx
        subst hx
        exact hPo)) 57 (.tu []) rfl [] trivial (by simp) rfl
      refine seg cfg22_ok mixed PanicFree.body 1000 [] [] h10.rebase (by first | trivial | exact HpRep.nil | assumption) (by kernel_rfl) fun s_ hs_ => ?_
      simp (maxSteps := 10000000) [SX.vc, SX.stop, SX.contS, SX.contB, SX.contW, SX.contR, SX.contD, SX.sxStep, SX.stepPure, SX.stepNew, SX.stepStore, SX.stepKeep, SX.guardIx, SX.evOp, SX.opd, SX.opds, SX.optOpd, SX.look, SX.putS, SX.gobs, SX.AllP, SX.leave, SX.lookC, SX.lookB, SX.lookT, SX.lookN, SX.findK, SX.evBuiltin, SX.ints, SX.foldI, SX.evBin, SX.evInt, SX.evStr, SX.evEq, SX.arith, SX.evLoad, SX.shapeUp, SX.evFieldAddr, SX.evField, SX.evIndexAddr, SX.evIndex, SX.evFill, SX.evBuild, SX.szs, SX.cellsV, SX.evNew, SX.evStore, SX.spliceL, SX.SV.cells, SX.evConv, SX.evSlice, SX.bnd, SX.evNil, SX.evUn, SX.evPick, SX.pickOpd, SX.popTo, SX.cnd, SX.env0, SX.TD.isAgg, SX.TD.isIface, SX.tails, SX.NotAgg, SX.evLookup, SX.evConvH, SX.evPtrEq, SX.isCells, SX.thaw, SX.frz, SX.fixB, SX.rootIx, SX.Froz, SX.frzStep, SX.fork, Go.Value.cells, Go.undef, cfg22]
      refine ⟨by (unfold SX.Ob; first | trivial | omega | ((try simp only [SX.inK]); (try simp [SX.den, SX.IsU8, SX.AllP, *]); (try omega))), ?_⟩
      intro a11 w11 hr11' _
      have hr11a := h10.unbase hr11'
      have hr11 := hr7b.unbase hr11a
      have hrep11 := SO.rep_same hrepR (hr11'.keeps.toBelow.block _ (SO.rep_lt hrepR))
      have hRl := hSt.1
      refine post_retn (end1 hr11 rfl rfl ⟨.slice (some ⟨bo, 0, none⟩) (vicK d L K d.Z.length).length capo, R, rfl, ?_, by rw [hvl]; exact hSt.congr hkey, hr11.keeps.toBelow⟩).1
      have z7 : w.heap.size ≤ w7.heap.size := hr7a.keeps.size
      exact .inr ⟨by omega, bo, 0, capo, uo, (0, 0), by omega, by rw [hRl], rep_arr_sub hrep11 (by omega) (fun j hj => by rw [hrowR j (by omega)]), by omega⟩
end Go.Proofs
