/- The cache: few; what the map of what was put last has to do with the cache. -/
import Derived.Test.YtppgccbloaijoaaCZ
namespace Go.Proofs
set_option linter.unusedVariables false
set_option linter.unusedSimpArgs false
set_option linter.unusedSectionVars false
open Go Go.SX Go.RowKit Go.Ring

set_option maxRecDepth 100000 in
set_option maxHeartbeats 8000000 in
/-- Put of what may not be. -/
theorem put_bad (w : World) (c : Nat) (lba ver : Int) (ad : Option Addr) (n cp : Nat) (h : lba < 0 ∨ ver < 0) :
    Calls Try.prog 8 (denL [.v (.pointer (some ⟨c, 0, none⟩)), .v (.int .i64 lba), .v (.int .i64 ver), .v (.slice ad n cp)]).toArray w (fun e w' => e = .returned (den (.v (.int .i64 1))) ∧ Below w.heap.size w w') := by
  refine enter (F := frame0 w) Try.func8 rfl [.v (.pointer (some ⟨c, 0, none⟩)), .v (.int .i64 lba), .v (.int .i64 ver), .v (.slice ad n cp)] [] (by simp [Try.f8]) trivial (keeps0 w) fun a hr => ?_
  by_cases h1 : lba < 0
  · refine seg cfg8_ok mixed PanicFree.body 1000 [true] [(15, true), (19, true)] hr (by first | trivial | exact HpRep.nil | assumption) (by kernel_rfl) fun s_ hs_ => ?_
    simp (maxSteps := 10000000) [SX.vc, SX.stop, SX.contS, SX.contB, SX.contW, SX.contR, SX.contD, SX.sxStep, SX.stepPure, SX.stepNew, SX.stepStore, SX.stepKeep, SX.guardIx, SX.evOp, SX.opd, SX.opds, SX.optOpd, SX.look, SX.putS, SX.gobs, SX.AllP, SX.leave, SX.lookC, SX.lookB, SX.lookT, SX.lookN, SX.findK, SX.evBuiltin, SX.ints, SX.foldI, SX.evBin, SX.evInt, SX.evStr, SX.evEq, SX.arith, SX.evLoad, SX.shapeUp, SX.evFieldAddr, SX.evField, SX.evIndexAddr, SX.evIndex, SX.evFill, SX.evBuild, SX.szs, SX.cellsV, SX.evNew, SX.evStore, SX.spliceL, SX.SV.cells, SX.evConv, SX.evSlice, SX.bnd, SX.evNil, SX.evUn, SX.evPick, SX.pickOpd, SX.popTo, SX.cnd, SX.env0, SX.TD.isAgg, SX.TD.isIface, SX.tails, SX.NotAgg, SX.evLookup, SX.evConvH, SX.evPtrEq, SX.isCells, SX.thaw, SX.frz, SX.fixB, SX.rootIx, SX.Froz, SX.frzStep, SX.fork, Go.Value.cells, Go.undef, cfg8, Try.f8, h1]
    refine ⟨by (unfold SX.Ob; first | trivial | omega | ((try simp only [SX.inK]); (try simp [SX.den, SX.IsU8, SX.AllP, *]); (try omega))), ?_⟩
    intro a1 w1 hr1 _
    exact post_retn (end1 hr1 rfl rfl ⟨rfl, hr1.keeps.toBelow⟩).1
  · have h2 : ver < 0 := by omega
    refine seg cfg8_ok mixed PanicFree.body 1000 [true] [(15, false), (19, true)] hr (by first | trivial | exact HpRep.nil | assumption) (by kernel_rfl) fun s_ hs_ => ?_
    simp (maxSteps := 10000000) [SX.vc, SX.stop, SX.contS, SX.contB, SX.contW, SX.contR, SX.contD, SX.sxStep, SX.stepPure, SX.stepNew, SX.stepStore, SX.stepKeep, SX.guardIx, SX.evOp, SX.opd, SX.opds, SX.optOpd, SX.look, SX.putS, SX.gobs, SX.AllP, SX.leave, SX.lookC, SX.lookB, SX.lookT, SX.lookN, SX.findK, SX.evBuiltin, SX.ints, SX.foldI, SX.evBin, SX.evInt, SX.evStr, SX.evEq, SX.arith, SX.evLoad, SX.shapeUp, SX.evFieldAddr, SX.evField, SX.evIndexAddr, SX.evIndex, SX.evFill, SX.evBuild, SX.szs, SX.cellsV, SX.evNew, SX.evStore, SX.spliceL, SX.SV.cells, SX.evConv, SX.evSlice, SX.bnd, SX.evNil, SX.evUn, SX.evPick, SX.pickOpd, SX.popTo, SX.cnd, SX.env0, SX.TD.isAgg, SX.TD.isIface, SX.tails, SX.NotAgg, SX.evLookup, SX.evConvH, SX.evPtrEq, SX.isCells, SX.thaw, SX.frz, SX.fixB, SX.rootIx, SX.Froz, SX.frzStep, SX.fork, Go.Value.cells, Go.undef, cfg8, Try.f8, h1, h2]
    refine ⟨by (unfold SX.Ob; first | trivial | omega | ((try simp only [SX.inK]); (try simp [SX.den, SX.IsU8, SX.AllP, *]); (try omega))), ?_⟩
    intro a1 w1 hr1 _
    exact post_retn (end1 hr1 rfl rfl ⟨rfl, hr1.keeps.toBelow⟩).1

/-- Something that is done. -/
structure Opc where
  d : Int
  lba : Int
  ver : Int
  n : Int
  lg : Bool
def opc0 : Opc := ⟨0, 0, 0, 0, false⟩
def opcC (o : Opc) : List SV := [.v (.int .i64 o.d), .v (.int .i64 o.lba), .v (.int .i64 o.ver), .v (.int .i64 o.n), .v (.bool o.lg)]
abbrev RdC := RdS opcC 5 opc0
def InC (o : Opc) : Prop := inK o.d ∧ inK o.lba ∧ inK o.ver ∧ inK o.n

def FewR (w : World) (L : List Opc) (e : Ending) (w' : World) : Prop := ∃ b : Bool, e = .returned (den (.v (.bool b))) ∧ (b = true → L.length ≤ 200 ∧ ∀ o ∈ L, o.d = 2 → 0 ≤ o.lba) ∧ Below w.heap.size w w'
def FcLoop (w : World) (L : List Opc) (v : Value) (m : Nat) (a : Act) (w' : World) : Prop :=
  ∃ k : Nat, m = L.length - k ∧ k ≤ L.length ∧ (∀ j, j < k → (nth opc0 L j).d = 2 → 0 ≤ (nth opc0 L j).lba) ∧ RepX (frame0 w) ⟨[(7, 0, .v (.int .i64 k)), (6, 0, .v (.int .i64 L.length)), (5, 0, .v v), (0, 0, .v v), (2, 0, .v (.bool false))], [], 0, 0, 38, [], [], []⟩ a w'

set_option maxRecDepth 100000 in
set_option maxHeartbeats 16000000 in
/-- few. -/
theorem few_ok {P : Nat → Prop} (w : World) (v : Value) (L : List Opc) (hL : RdC P w v L) (hn : L.length ≤ 1000000000000000) : Calls Try.prog 13 (denL [.v v]).toArray w (FewR w L) := by
  obtain ⟨ad, cp, rfl⟩ := hL.slice
  refine enter (F := frame0 w) Try.func13 rfl [.v (.slice ad L.length cp)] [] (by simp [Try.f13]) trivial (keeps0 w) fun a hr => ?_
  refine seg cfg13_ok mixed PanicFree.body 1000 [] [] hr (by first | trivial | exact HpRep.nil | assumption) (by kernel_rfl) fun s_ hs_ => ?_
  simp (maxSteps := 10000000) [SX.vc, SX.stop, SX.contS, SX.contB, SX.contW, SX.contR, SX.contD, SX.sxStep, SX.stepPure, SX.stepNew, SX.stepStore, SX.stepKeep, SX.guardIx, SX.evOp, SX.opd, SX.opds, SX.optOpd, SX.look, SX.putS, SX.gobs, SX.AllP, SX.leave, SX.lookC, SX.lookB, SX.lookT, SX.lookN, SX.findK, SX.evBuiltin, SX.ints, SX.foldI, SX.evBin, SX.evInt, SX.evStr, SX.evEq, SX.arith, SX.evLoad, SX.shapeUp, SX.evFieldAddr, SX.evField, SX.evIndexAddr, SX.evIndex, SX.evFill, SX.evBuild, SX.szs, SX.cellsV, SX.evNew, SX.evStore, SX.spliceL, SX.SV.cells, SX.evConv, SX.evSlice, SX.bnd, SX.evNil, SX.evUn, SX.evPick, SX.pickOpd, SX.popTo, SX.cnd, SX.env0, SX.TD.isAgg, SX.TD.isIface, SX.tails, SX.NotAgg, SX.evLookup, SX.evConvH, SX.evPtrEq, SX.isCells, SX.thaw, SX.frz, SX.fixB, SX.rootIx, SX.Froz, SX.frzStep, SX.fork, Go.Value.cells, Go.undef, cfg13, Try.f13]
  refine ⟨by (unfold SX.Ob; first | trivial | omega | ((try simp only [SX.inK]); (try simp [SX.den, SX.IsU8, SX.AllP, *]); (try omega))), ?_⟩
  intro a1 w1 hr1 _
  refine post_loop (FcLoop w L (.slice ad L.length cp)) L.length ⟨0, rfl, by omega, by omega, hr1.re (by simp [envTo, SX.look]) trivial rfl rfl⟩ ?_
  rintro m a2 w2 ⟨k, rfl, hk, hs, hr2⟩
  by_cases hlt : k < L.length
  · obtain ⟨b, o0, cap, u, fz, hP, hv, hrep⟩ := (hL.below hr2.keeps.toBelow).opn hlt
    cases hv
    obtain ⟨o, ho⟩ : ∃ o, nth opc0 L k = o := ⟨_, rfl⟩
    have h2 := (hr2.top 5 (.sl 0 b o0 0 L.length cp 5) rfl (by simp [den])).see _ (HpAll.one hrep)
    have hnext : (o.d = 2 → 0 ≤ o.lba) → ∀ j, j < k + 1 → (nth opc0 L j).d = 2 → 0 ≤ (nth opc0 L j).lba := fun h j hj => by
      rcases Nat.lt_or_ge j k with h' | h'
      · exact hs j h'
      · obtain rfl : j = k := by omega
        rw [ho]; exact h
    by_cases d2 : o.d = 2
    · have d2' : (o.d == 2) = true := by simpa using d2
      by_cases hl : o.lba < 0
      · refine seg cfg13_ok mixed PanicFree.body 1000 [true, true] [(14, true), (19, true)] h2 (by first | trivial | exact HpRep.nil | assumption) (by kernel_rfl) fun s_ hs_ => ?_
        simp (maxSteps := 10000000) [SX.vc, SX.stop, SX.contS, SX.contB, SX.contW, SX.contR, SX.contD, SX.sxStep, SX.stepPure, SX.stepNew, SX.stepStore, SX.stepKeep, SX.guardIx, SX.evOp, SX.opd, SX.opds, SX.optOpd, SX.look, SX.putS, SX.gobs, SX.AllP, SX.leave, SX.lookC, SX.lookB, SX.lookT, SX.lookN, SX.findK, SX.evBuiltin, SX.ints, SX.foldI, SX.evBin, SX.evInt, SX.evStr, SX.evEq, SX.arith, SX.evLoad, SX.shapeUp, SX.evFieldAddr, SX.evField, SX.evIndexAddr, SX.evIndex, SX.evFill, SX.evBuild, SX.szs, SX.cellsV, SX.evNew, SX.evStore, SX.spliceL, SX.SV.cells, SX.evConv, SX.evSlice, SX.bnd, SX.evNil, SX.evUn, SX.evPick, SX.pickOpd, SX.popTo, SX.cnd, SX.env0, SX.TD.isAgg, SX.TD.isIface, SX.tails, SX.NotAgg, SX.evLookup, SX.evConvH, SX.evPtrEq, SX.isCells, SX.thaw, SX.frz, SX.fixB, SX.rootIx, SX.Froz, SX.frzStep, SX.fork, Go.Value.cells, Go.undef, cfg13, opcC, ho, d2', hl]
        refine ⟨by (unfold SX.Ob; first | trivial | omega | ((try simp only [SX.inK]); (try simp [SX.den, SX.IsU8, SX.AllP, *]); (try omega))), ?_⟩
        intro a3 w3 hr3 _
        exact post_retn (end1 hr3 rfl rfl ⟨false, rfl, by simp, hr3.keeps.toBelow⟩).1
      · have d3 : (o.d == 3) = false := by rw [d2]; decide
        refine seg cfg13_ok mixed PanicFree.body 1000 [true, false] [(14, true), (19, false), (23, false)] h2 (by first | trivial | exact HpRep.nil | assumption) (by kernel_rfl) fun s_ hs_ => ?_
        simp (maxSteps := 10000000) [SX.vc, SX.stop, SX.contS, SX.contB, SX.contW, SX.contR, SX.contD, SX.sxStep, SX.stepPure, SX.stepNew, SX.stepStore, SX.stepKeep, SX.guardIx, SX.evOp, SX.opd, SX.opds, SX.optOpd, SX.look, SX.putS, SX.gobs, SX.AllP, SX.leave, SX.lookC, SX.lookB, SX.lookT, SX.lookN, SX.findK, SX.evBuiltin, SX.ints, SX.foldI, SX.evBin, SX.evInt, SX.evStr, SX.evEq, SX.arith, SX.evLoad, SX.shapeUp, SX.evFieldAddr, SX.evField, SX.evIndexAddr, SX.evIndex, SX.evFill, SX.evBuild, SX.szs, SX.cellsV, SX.evNew, SX.evStore, SX.spliceL, SX.SV.cells, SX.evConv, SX.evSlice, SX.bnd, SX.evNil, SX.evUn, SX.evPick, SX.pickOpd, SX.popTo, SX.cnd, SX.env0, SX.TD.isAgg, SX.TD.isIface, SX.tails, SX.NotAgg, SX.evLookup, SX.evConvH, SX.evPtrEq, SX.isCells, SX.thaw, SX.frz, SX.fixB, SX.rootIx, SX.Froz, SX.frzStep, SX.fork, Go.Value.cells, Go.undef, cfg13, opcC, ho, d2', d3, hl]
        refine ⟨by (unfold SX.Ob; first | trivial | omega | ((try simp only [SX.inK]); (try simp [SX.den, SX.IsU8, SX.AllP, *]); (try omega))), ?_⟩
        intro a3 w3 hr3 _
        exact post_rnd (L.length - (k + 1)) (by omega) ⟨k + 1, rfl, hlt, hnext (fun _ => by omega), hr3.re (by simp [envTo, SX.look, den]) trivial rfl rfl⟩
    · have d2' : (o.d == 2) = false := by simpa using d2
      by_cases d3 : o.d = 3
      · have d3' : (o.d == 3) = true := by simpa using d3
        by_cases n20 : 20 < o.n
        · refine seg cfg13_ok mixed PanicFree.body 1000 [true, true] [(14, false), (19, false), (23, true), (27, true)] h2 (by first | trivial | exact HpRep.nil | assumption) (by kernel_rfl) fun s_ hs_ => ?_
          simp (maxSteps := 10000000) [SX.vc, SX.stop, SX.contS, SX.contB, SX.contW, SX.contR, SX.contD, SX.sxStep, SX.stepPure, SX.stepNew, SX.stepStore, SX.stepKeep, SX.guardIx, SX.evOp, SX.opd, SX.opds, SX.optOpd, SX.look, SX.putS, SX.gobs, SX.AllP, SX.leave, SX.lookC, SX.lookB, SX.lookT, SX.lookN, SX.findK, SX.evBuiltin, SX.ints, SX.foldI, SX.evBin, SX.evInt, SX.evStr, SX.evEq, SX.arith, SX.evLoad, SX.shapeUp, SX.evFieldAddr, SX.evField, SX.evIndexAddr, SX.evIndex, SX.evFill, SX.evBuild, SX.szs, SX.cellsV, SX.evNew, SX.evStore, SX.spliceL, SX.SV.cells, SX.evConv, SX.evSlice, SX.bnd, SX.evNil, SX.evUn, SX.evPick, SX.pickOpd, SX.popTo, SX.cnd, SX.env0, SX.TD.isAgg, SX.TD.isIface, SX.tails, SX.NotAgg, SX.evLookup, SX.evConvH, SX.evPtrEq, SX.isCells, SX.thaw, SX.frz, SX.fixB, SX.rootIx, SX.Froz, SX.frzStep, SX.fork, Go.Value.cells, Go.undef, cfg13, opcC, ho, d2', d3', n20]
          refine ⟨by (unfold SX.Ob; first | trivial | omega | ((try simp only [SX.inK]); (try simp [SX.den, SX.IsU8, SX.AllP, *]); (try omega))), ?_⟩
          intro a3 w3 hr3 _
          exact post_retn (end1 hr3 rfl rfl ⟨false, rfl, by simp, hr3.keeps.toBelow⟩).1
        · by_cases hl : 1099511627776 < o.lba
          · refine seg cfg13_ok mixed PanicFree.body 1000 [true, true] [(14, false), (19, false), (23, true), (27, false)] h2 (by first | trivial | exact HpRep.nil | assumption) (by kernel_rfl) fun s_ hs_ => ?_
            simp (maxSteps := 10000000) [SX.vc, SX.stop, SX.contS, SX.contB, SX.contW, SX.contR, SX.contD, SX.sxStep, SX.stepPure, SX.stepNew, SX.stepStore, SX.stepKeep, SX.guardIx, SX.evOp, SX.opd, SX.opds, SX.optOpd, SX.look, SX.putS, SX.gobs, SX.AllP, SX.leave, SX.lookC, SX.lookB, SX.lookT, SX.lookN, SX.findK, SX.evBuiltin, SX.ints, SX.foldI, SX.evBin, SX.evInt, SX.evStr, SX.evEq, SX.arith, SX.evLoad, SX.shapeUp, SX.evFieldAddr, SX.evField, SX.evIndexAddr, SX.evIndex, SX.evFill, SX.evBuild, SX.szs, SX.cellsV, SX.evNew, SX.evStore, SX.spliceL, SX.SV.cells, SX.evConv, SX.evSlice, SX.bnd, SX.evNil, SX.evUn, SX.evPick, SX.pickOpd, SX.popTo, SX.cnd, SX.env0, SX.TD.isAgg, SX.TD.isIface, SX.tails, SX.NotAgg, SX.evLookup, SX.evConvH, SX.evPtrEq, SX.isCells, SX.thaw, SX.frz, SX.fixB, SX.rootIx, SX.Froz, SX.frzStep, SX.fork, Go.Value.cells, Go.undef, cfg13, opcC, ho, d2', d3', n20, hl]
            refine ⟨by (unfold SX.Ob; first | trivial | omega | ((try simp only [SX.inK]); (try simp [SX.den, SX.IsU8, SX.AllP, *]); (try omega))), ?_⟩
            intro a3 w3 hr3 _
            exact post_retn (end1 hr3 rfl rfl ⟨false, rfl, by simp, hr3.keeps.toBelow⟩).1
          · refine seg cfg13_ok mixed PanicFree.body 1000 [true, false] [(14, false), (19, false), (23, true), (27, false)] h2 (by first | trivial | exact HpRep.nil | assumption) (by kernel_rfl) fun s_ hs_ => ?_
            simp (maxSteps := 10000000) [SX.vc, SX.stop, SX.contS, SX.contB, SX.contW, SX.contR, SX.contD, SX.sxStep, SX.stepPure, SX.stepNew, SX.stepStore, SX.stepKeep, SX.guardIx, SX.evOp, SX.opd, SX.opds, SX.optOpd, SX.look, SX.putS, SX.gobs, SX.AllP, SX.leave, SX.lookC, SX.lookB, SX.lookT, SX.lookN, SX.findK, SX.evBuiltin, SX.ints, SX.foldI, SX.evBin, SX.evInt, SX.evStr, SX.evEq, SX.arith, SX.evLoad, SX.shapeUp, SX.evFieldAddr, SX.evField, SX.evIndexAddr, SX.evIndex, SX.evFill, SX.evBuild, SX.szs, SX.cellsV, SX.evNew, SX.evStore, SX.spliceL, SX.SV.cells, SX.evConv, SX.evSlice, SX.bnd, SX.evNil, SX.evUn, SX.evPick, SX.pickOpd, SX.popTo, SX.cnd, SX.env0, SX.TD.isAgg, SX.TD.isIface, SX.tails, SX.NotAgg, SX.evLookup, SX.evConvH, SX.evPtrEq, SX.isCells, SX.thaw, SX.frz, SX.fixB, SX.rootIx, SX.Froz, SX.frzStep, SX.fork, Go.Value.cells, Go.undef, cfg13, opcC, ho, d2', d3', n20, hl]
            refine ⟨by (unfold SX.Ob; first | trivial | omega | ((try simp only [SX.inK]); (try simp [SX.den, SX.IsU8, SX.AllP, *]); (try omega))), ?_⟩
            intro a3 w3 hr3 _
            exact post_rnd (L.length - (k + 1)) (by omega) ⟨k + 1, rfl, hlt, hnext (fun h => absurd h d2), hr3.re (by simp [envTo, SX.look, den]) trivial rfl rfl⟩
      · have d3' : (o.d == 3) = false := by simpa using d3
        refine seg cfg13_ok mixed PanicFree.body 1000 [true, false] [(14, false), (19, false), (23, false)] h2 (by first | trivial | exact HpRep.nil | assumption) (by kernel_rfl) fun s_ hs_ => ?_
        simp (maxSteps := 10000000) [SX.vc, SX.stop, SX.contS, SX.contB, SX.contW, SX.contR, SX.contD, SX.sxStep, SX.stepPure, SX.stepNew, SX.stepStore, SX.stepKeep, SX.guardIx, SX.evOp, SX.opd, SX.opds, SX.optOpd, SX.look, SX.putS, SX.gobs, SX.AllP, SX.leave, SX.lookC, SX.lookB, SX.lookT, SX.lookN, SX.findK, SX.evBuiltin, SX.ints, SX.foldI, SX.evBin, SX.evInt, SX.evStr, SX.evEq, SX.arith, SX.evLoad, SX.shapeUp, SX.evFieldAddr, SX.evField, SX.evIndexAddr, SX.evIndex, SX.evFill, SX.evBuild, SX.szs, SX.cellsV, SX.evNew, SX.evStore, SX.spliceL, SX.SV.cells, SX.evConv, SX.evSlice, SX.bnd, SX.evNil, SX.evUn, SX.evPick, SX.pickOpd, SX.popTo, SX.cnd, SX.env0, SX.TD.isAgg, SX.TD.isIface, SX.tails, SX.NotAgg, SX.evLookup, SX.evConvH, SX.evPtrEq, SX.isCells, SX.thaw, SX.frz, SX.fixB, SX.rootIx, SX.Froz, SX.frzStep, SX.fork, Go.Value.cells, Go.undef, cfg13, opcC, ho, d2', d3']
        refine ⟨by (unfold SX.Ob; first | trivial | omega | ((try simp only [SX.inK]); (try simp [SX.den, SX.IsU8, SX.AllP, *]); (try omega))), ?_⟩
        intro a3 w3 hr3 _
        exact post_rnd (L.length - (k + 1)) (by omega) ⟨k + 1, rfl, hlt, hnext (fun h => absurd h d2), hr3.re (by simp [envTo, SX.look, den]) trivial rfl rfl⟩
  · obtain rfl : k = L.length := by omega
    refine seg cfg13_ok mixed PanicFree.body 1000 [false] [] hr2 (by first | trivial | exact HpRep.nil | assumption) (by kernel_rfl) fun s_ hs_ => ?_
    simp (maxSteps := 10000000) [SX.vc, SX.stop, SX.contS, SX.contB, SX.contW, SX.contR, SX.contD, SX.sxStep, SX.stepPure, SX.stepNew, SX.stepStore, SX.stepKeep, SX.guardIx, SX.evOp, SX.opd, SX.opds, SX.optOpd, SX.look, SX.putS, SX.gobs, SX.AllP, SX.leave, SX.lookC, SX.lookB, SX.lookT, SX.lookN, SX.findK, SX.evBuiltin, SX.ints, SX.foldI, SX.evBin, SX.evInt, SX.evStr, SX.evEq, SX.arith, SX.evLoad, SX.shapeUp, SX.evFieldAddr, SX.evField, SX.evIndexAddr, SX.evIndex, SX.evFill, SX.evBuild, SX.szs, SX.cellsV, SX.evNew, SX.evStore, SX.spliceL, SX.SV.cells, SX.evConv, SX.evSlice, SX.bnd, SX.evNil, SX.evUn, SX.evPick, SX.pickOpd, SX.popTo, SX.cnd, SX.env0, SX.TD.isAgg, SX.TD.isIface, SX.tails, SX.NotAgg, SX.evLookup, SX.evConvH, SX.evPtrEq, SX.isCells, SX.thaw, SX.frz, SX.fixB, SX.rootIx, SX.Froz, SX.frzStep, SX.fork, Go.Value.cells, Go.undef, cfg13]
    refine ⟨by (unfold SX.Ob; first | trivial | omega | ((try simp only [SX.inK]); (try simp [SX.den, SX.IsU8, SX.AllP, *]); (try omega))), ?_⟩
    intro a3 w3 hr3 _
    exact post_retn (end1 hr3 rfl rfl ⟨_, rfl, fun h => ⟨by have h1 := of_decide_eq_true h; omega, fun o ho hd => by
      obtain ⟨j, hj, rfl⟩ := List.mem_iff_getElem.1 ho
      have := hs j hj
      rw [nth_lt hj] at this
      exact this hd⟩, hr3.keeps.toBelow⟩).1

/-- A block's bytes, as a string. -/
def strT (g : Nat → Int) : Value := .string (strOf (u8s (fun j => [.v (.int .u8 (g j))]) 0 16))
structure LI (mm : Int) (A : List It) (mL : Int × Int → Option Value) : Prop where
  has : ∀ x ∈ A, mL (x.lba, x.ver) = some (strT x.g)
  str : ∀ p v, mL p = some v → ∃ s, v = .string s
  rng : ∀ x ∈ A, 0 ≤ x.lba ∧ x.lba ≤ 9223372036854775807
  len : (A.length : Int) ≤ mm

theorem mem_trim {m : Int} {l : List It} {x : It} (h : x ∈ trimL m l) : x ∈ l := by
  unfold trimL at h
  split at h
  · exact (List.dropLast_sublist l).subset h
  · exact h
theorem trim_len {m : Int} {l : List It} (h : (l.length : Int) ≤ m + 1) (h0 : 0 ≤ m) : ((trimL m l).length : Int) ≤ m := by
  unfold trimL
  split
  · rw [List.length_dropLast]; omega
  · omega
/-- Whether a newer one is there. -/
def newerC (A : List It) (lba ver : Int) (k : Int × Int) : Prop := k.1 = lba ∧ ver < k.2 ∧ hasKey A k
theorem mem_keys {A : List It} {k : Int × Int} : hasKey A k ↔ ∃ x ∈ A, x.lba = k.1 ∧ x.ver = k.2 := by
  unfold hasKey keysL
  rw [List.mem_map]
  constructor
  · rintro ⟨x, hx, rfl⟩; exact ⟨x, hx, rfl, rfl⟩
  · rintro ⟨x, hx, h1, h2⟩; exact ⟨x, hx, Prod.ext h1 h2⟩
theorem find_mem {lba : Int} {A : List It} {x : It} (h : findL lba A = some x) : x ∈ A ∧ x.lba = lba := ⟨List.mem_of_find?_eq_some h, by simpa using List.find?_some h⟩
theorem find_no {lba : Int} {A : List It} (h : findL lba A = none) : ∀ x ∈ A, x.lba ≠ lba := by
  intro x hx
  have := List.find?_eq_none.1 h x hx
  simpa using this

theorem LI.putOld {mm : Int} {A : List It} {mL : Int × Int → Option Value} {t x : It} (h : LI mm A mL) (hf : findL t.lba A = some x) (hv : t.ver < x.ver) : putL mm A t = A ∧ ∃ p v, mL p = some v ∧ newerC (putL mm A t) t.lba t.ver p := by
  have e : putL mm A t = A := by
    unfold putL
    rw [hf]
    exact if_pos hv
  obtain ⟨hm, hl⟩ := find_mem hf
  rw [e]
  exact ⟨rfl, (x.lba, x.ver), _, h.has x hm, hl, hv, mem_keys.2 ⟨x, hm, rfl, rfl⟩⟩
theorem LI.putNew {mm : Int} {A : List It} {mL : Int × Int → Option Value} {t : It} (h : LI mm A mL) (h0 : 0 ≤ mm) (hf : ∀ x, findL t.lba A = some x → x.ver ≤ t.ver) (ht : 0 ≤ t.lba ∧ t.lba ≤ 9223372036854775807) :
    LI mm (putL mm A t) (updK mL (t.lba, t.ver) (strT t.g)) ∧ ∀ p, ¬ newerC (putL mm A t) t.lba t.ver p := by
  obtain ⟨B, hB, hBm, hBl, hBlen⟩ : ∃ B : List It, putL mm A t = trimL mm (t :: B) ∧ (∀ x ∈ B, x ∈ A) ∧ (∀ x ∈ B, x.lba ≠ t.lba) ∧ B.length ≤ A.length := by
    unfold putL
    rcases hfx : findL t.lba A with _ | x
    · exact ⟨A, rfl, fun x hx => hx, find_no hfx, Nat.le_refl _⟩
    · refine ⟨othersL t.lba A, ?_, fun x hx => (List.mem_filter.1 hx).1, fun x hx => by simpa using (List.mem_filter.1 hx).2, List.length_filter_le _ _⟩
      have := hf x hfx
      exact if_neg (by omega)
  have hmem : ∀ x ∈ putL mm A t, x = t ∨ (x ∈ A ∧ x.lba ≠ t.lba) := fun x hx => by
    rw [hB] at hx
    rcases List.mem_cons.1 (mem_trim hx) with h | h
    · exact .inl h
    · exact .inr ⟨hBm x h, hBl x h⟩
  refine ⟨⟨fun x hx => ?_, fun p v hp => ?_, fun x hx => ?_, ?_⟩, fun p hp => ?_⟩
  · unfold updK
    rcases hmem x hx with rfl | ⟨h1, h2⟩
    · rw [if_pos rfl]
    · rw [if_neg fun e => h2 (congrArg Prod.fst e)]
      exact h.has x h1
  · unfold updK at hp
    split at hp
    · cases hp; exact ⟨_, rfl⟩
    · exact h.str p v hp
  · rcases hmem x hx with rfl | ⟨h1, _⟩
    · exact ht
    · exact h.rng x h1
  · rw [hB]
    refine trim_len ?_ h0
    have := h.len
    simp only [List.length_cons]
    omega
  · obtain ⟨h1, h2, h3⟩ := hp
    obtain ⟨x, hx, e1, e2⟩ := mem_keys.1 h3
    rcases hmem x hx with rfl | ⟨_, h5⟩
    · omega
    · exact h5 (e1.trans h1)
theorem LI.front {mm : Int} {A : List It} {mL : Int × Int → Option Value} {x : It} {lba : Int} (h : LI mm A mL) (hf : findL lba A = some x) : LI mm (x :: othersL lba A) mL := by
  obtain ⟨hm, hl⟩ := find_mem hf
  have hsub : ∀ y ∈ x :: othersL lba A, y ∈ A := fun y hy => by
    rcases List.mem_cons.1 hy with rfl | hy
    · exact hm
    · exact (List.mem_filter.1 hy).1
  refine ⟨fun y hy => h.has y (hsub y hy), h.str, fun y hy => h.rng y (hsub y hy), ?_⟩
  have h1 : (othersL lba A).length < A.length := by
    unfold othersL
    have := List.length_filter_lt_length_iff_exists (p := fun y : It => decide (y.lba ≠ lba)) (l := A)
    exact this.2 ⟨x, hm, by simp [hl]⟩
  have := h.len
  simp only [List.length_cons]
  omega
theorem LI.sub {mm : Int} {A B : List It} {mL : Int × Int → Option Value} (h : LI mm A mL) (hs : ∀ x ∈ B, x ∈ A) (hl : B.length ≤ A.length) : LI mm B mL :=
  ⟨fun y hy => h.has y (hs y hy), h.str, fun y hy => h.rng y (hs y hy), by have := h.len; omega⟩
end Go.Proofs
