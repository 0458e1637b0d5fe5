/- Spans: edges. -/
import Derived.Test.YtpgknabmpghcoaaQD
import Derived.Test.YtpgknabmpghcoaaPX
namespace Go.Proofs
set_option linter.unusedVariables false
set_option linter.unusedSimpArgs false
open Go Go.SX Go.RowKit

abbrev OwI := OwS intC 1 (0 : Int)
theorem flatI (L : List Int) : ∀ x ∈ L, ∀ c ∈ intC x, NotAgg (den c) := by
  intro x _ c hc
  simp only [intC, List.mem_cons, List.not_mem_nil, or_false] at hc
  subst hc
  trivial

def EdgeR (w : World) (MA : List Nat) (n : Int) (l : Nat) (e : Ending) (w' : World) : Prop := ∃ v' E, e = .returned v' ∧ RdI (fun x => w.heap.size ≤ x) w' v' E ∧ (∀ k ∈ E, 0 ≤ k ∧ k < n) ∧ E.length ≤ l ∧ KeepsTo w MA w'

def E1Loop (w : World) (MA : List Nat) (v : Value) (L : List Spn) (l : Nat) (m : Nat) (a : Act) (w' : World) : Prop :=
  ∃ (k : Nat) (A : List Int) (va : Value), m = L.length - k ∧ k ≤ L.length ∧ A.length ≤ l + 2 * k ∧ (∀ a ∈ A, 0 ≤ a ∧ a ≤ 2199023255552) ∧ OwI (fun x => x ∈ MA ∨ w.heap.size ≤ x) w' va A ∧
    RepX ⟨w, w.heap.size, MA⟩ ⟨[(14, 0, .v (.int .i64 k)), (13, 0, .v (.int .i64 L.length)), (12, 0, .v v), (0, 0, .v v), (1, 0, .v va), (5, 0, .v (.slice none 0 0)), (4, 0, .v (.slice none 0 0))], [], 0, 0, 63, [], [], []⟩ a w'

def E2Loop (ws : World) (va : Value) (A : List Int) (n : Int) (m : Nat) (a : Act) (w' : World) : Prop :=
  ∃ (i : Nat) (E : List Int) (ve : Value), m = A.length - i ∧ i ≤ A.length ∧ E.length ≤ 3 * i ∧ (∀ k ∈ E, 0 ≤ k ∧ k < n) ∧ OwI (fun x => ws.heap.size ≤ x) w' ve E ∧
    RepX (frameAt ws []) ⟨[(38, 0, .v (.int .i64 i)), (37, 0, .v (.int .i64 A.length)), (36, 0, .v va), (5, 0, .v ve), (8, 0, .v (.int .i64 n)), (4, 0, .v (.slice none 0 0))], [], 0, 0, 63, [], [], []⟩ a w'

def E3Loop (ws : World) (va : Value) (A : List Int) (n : Int) (i : Nat) (x : Int) (m : Nat) (a : Act) (w' : World) : Prop :=
  ∃ (j : Nat) (E : List Int) (ve : Value), m = 3 - j ∧ j ≤ 3 ∧ E.length ≤ 3 * i + j ∧ (∀ k ∈ E, 0 ≤ k ∧ k < n) ∧ OwI (fun x => ws.heap.size ≤ x) w' ve E ∧
    RepX (frameAt ws []) ⟨[(11, 0, .v (.int .i64 (x - 1 + j))), (10, 0, .v (.int .i64 x)), (38, 0, .v (.int .i64 i)), (37, 0, .v (.int .i64 A.length)), (36, 0, .v va), (5, 0, .v ve), (8, 0, .v (.int .i64 n)), (4, 0, .v (.slice none 0 0))], [], 0, 0, 63, [], [], []⟩ a w'

set_option maxRecDepth 100000 in
set_option maxHeartbeats 16000000 in
/-- edges. -/
theorem edges_ok {P : Nat → Prop} (w : World) (v va : Value) (L : List Spn) (A : List Int) (MA : List Nat) (hL : RdP P w v L) (hC : ChkP L) (hPM : ∀ x ∈ MA, ¬ P x) (hA : OwI (fun x => x ∈ MA) w va A) (hn : L.length ≤ 10000) (hnA : A.length ≤ 10000) (hAr : ∀ a ∈ A, 0 ≤ a ∧ a ≤ 2199023255552) :
    Calls Try.prog 15 (denL [.v v, .v va]).toArray w (EdgeR w MA (endS 0 L) 100000) := by
  obtain ⟨ad, cp, rfl⟩ := hL.slice
  refine enter (F := ⟨w, w.heap.size, MA⟩) Try.func15 rfl [.v (.slice ad L.length cp), .v va] [] (by simp [Try.f15]) trivial (KeepsTo.refl w _) fun a hr => ?_
  refine seg cfg15_ok mixed PanicFree.body 1000 [] [] hr.rebase (by first | trivial | exact HpRep.nil | assumption) (by kernel_rfl) fun s_ hs_ => ?_
  simp (maxSteps := 10000000) [SX.vc, SX.stop, SX.contS, SX.contB, SX.contW, SX.contR, SX.contD, SX.sxStep, SX.stepPure, SX.stepNew, SX.stepStore, SX.stepKeep, SX.guardIx, SX.evOp, SX.opd, SX.opds, SX.optOpd, SX.look, SX.putS, SX.gobs, SX.AllP, SX.leave, SX.lookC, SX.lookB, SX.lookT, SX.lookN, SX.findK, SX.evBuiltin, SX.ints, SX.foldI, SX.evBin, SX.evInt, SX.evStr, SX.evEq, SX.arith, SX.evLoad, SX.shapeUp, SX.evFieldAddr, SX.evField, SX.evIndexAddr, SX.evIndex, SX.evFill, SX.evBuild, SX.szs, SX.cellsV, SX.evNew, SX.evStore, SX.spliceL, SX.SV.cells, SX.evConv, SX.evSlice, SX.bnd, SX.evNil, SX.evUn, SX.evPick, SX.pickOpd, SX.popTo, SX.cnd, SX.env0, SX.TD.isAgg, SX.TD.isIface, SX.tails, SX.NotAgg, SX.evLookup, SX.evConvH, SX.evPtrEq, SX.isCells, SX.thaw, SX.frz, SX.fixB, SX.rootIx, SX.Froz, SX.frzStep, SX.fork, Go.Value.cells, Go.undef, cfg15, Try.f15]
  refine ⟨by (unfold SX.Ob; first | trivial | omega | ((try simp only [SX.inK]); (try simp [SX.den, SX.IsU8, SX.AllP, *]); (try omega))), ?_⟩
  intro a1 w1 hr1' _
  have hr1 := hr.unbase hr1'
  have z0 : w.heap.size ≤ w1.heap.size := hr1.keeps.size
  have hend := hC.2.2
  have hend0 := hC.2.1
  refine post_loop (E1Loop w MA (.slice ad L.length cp) L A.length) L.length ⟨0, A, va, rfl, by omega, by omega, hAr, (hA.keep hr1'.keeps (by simp [frameAt, mutB])).mono fun x _ h => .inl h, hr1.re (by simp [envTo, SX.look]) trivial rfl rfl⟩ ?_
  rintro m a2 w2 ⟨k, A2, va2, rfl, hk, hl2, hA2r, hO2, hr2⟩
  have hL2 := hL.keep (M := MA) hr2.keeps hPM
  have z2 : w.heap.size ≤ w2.heap.size := hr2.keeps.size
  by_cases hlt : k < L.length
  · obtain ⟨b, o0, cap, u, fz, hP, hv, hrep⟩ := hL2.opn hlt
    cases hv
    obtain ⟨x, hx⟩ : ∃ x, nth spn0 L k = x := ⟨_, rfl⟩
    have hcx := chkS_nth hC.1 hlt
    rw [hx] at hcx
    have hxe : x.to ≤ endS 0 L := by
      rcases Int.lt_or_le (endS 0 L) x.to with h' | h'
      · exfalso
        have := hasS_high L 0 (b := x.to - 1) (t := (x.ow, x.ep)) hC.1 ⟨x, hx ▸ nth_mem hlt, ⟨by omega, by omega⟩, rfl⟩
        omega
      · exact h'
    have h3 := (hr2.top 12 (.sl 0 b o0 0 L.length cp 4) rfl (by simp [den])).see _ (HpAll.one hrep)
    refine seg cfg15_ok mixed PanicFree.body 1000 [true] [] h3.rebase (by first | trivial | exact HpRep.nil | assumption) (by kernel_rfl) fun s_ hs_ => ?_
    simp (maxSteps := 10000000) [SX.vc, SX.stop, SX.contS, SX.contB, SX.contW, SX.contR, SX.contD, SX.sxStep, SX.stepPure, SX.stepNew, SX.stepStore, SX.stepKeep, SX.guardIx, SX.evOp, SX.opd, SX.opds, SX.optOpd, SX.look, SX.putS, SX.gobs, SX.AllP, SX.leave, SX.lookC, SX.lookB, SX.lookT, SX.lookN, SX.findK, SX.evBuiltin, SX.ints, SX.foldI, SX.evBin, SX.evInt, SX.evStr, SX.evEq, SX.arith, SX.evLoad, SX.shapeUp, SX.evFieldAddr, SX.evField, SX.evIndexAddr, SX.evIndex, SX.evFill, SX.evBuild, SX.szs, SX.cellsV, SX.evNew, SX.evStore, SX.spliceL, SX.SV.cells, SX.evConv, SX.evSlice, SX.bnd, SX.evNil, SX.evUn, SX.evPick, SX.pickOpd, SX.popTo, SX.cnd, SX.env0, SX.TD.isAgg, SX.TD.isIface, SX.tails, SX.NotAgg, SX.evLookup, SX.evConvH, SX.evPtrEq, SX.isCells, SX.thaw, SX.frz, SX.fixB, SX.rootIx, SX.Froz, SX.frzStep, SX.fork, Go.Value.cells, Go.undef, cfg15, spnC, hx]
    refine ⟨by (unfold SX.Ob; first | trivial | omega | ((try simp only [SX.inK]); (try simp [SX.den, SX.IsU8, SX.AllP, *]); (try omega))), ?_⟩
    intro a4 w4 hr4' _
    have hr4 := h3.unbase hr4'
    have z4 : w.heap.size ≤ w4.heap.size := hr4.keeps.size
    have hO4 := hO2.keep hr4'.keeps (by simp [frameAt, mutB])
    refine post_app (C := cfg15) cfg15_ok hr4 (by first | exact wanted_none rfl | exact wanted_zero (hr4.env.same rfl rfl rfl rfl) rfl (by simp)) rfl (by simp) rfl rfl rfl rfl rfl rfl rfl rfl rfl (by decide) (flatI _) (by (try simp only [List.length_append, List.length_cons, List.length_nil, List.length_map, List.length_take]); omega) (fun x hx => .inr (Nat.le_trans z4 hx)) hO4 (RdS.lit2 (x := x.fr) (y := x.to) hr4.all.2.2.1.1 (by simp [intC]) (by simp [intC])) [] (fun _ _ _ _ => trivial) (fun x hx => hx.elim .inr .inl) fun V5 a5 w5 B5 hO5 hB5 hk5 hr5 => ?_
    refine seg cfg15_ok mixed PanicFree.body 1000 [] [] hr5.rebase (by first | trivial | exact HpRep.nil | assumption) (by kernel_rfl) fun s_ hs_ => ?_
    simp (maxSteps := 10000000) [SX.vc, SX.stop, SX.contS, SX.contB, SX.contW, SX.contR, SX.contD, SX.sxStep, SX.stepPure, SX.stepNew, SX.stepStore, SX.stepKeep, SX.guardIx, SX.evOp, SX.opd, SX.opds, SX.optOpd, SX.look, SX.putS, SX.gobs, SX.AllP, SX.leave, SX.lookC, SX.lookB, SX.lookT, SX.lookN, SX.findK, SX.evBuiltin, SX.ints, SX.foldI, SX.evBin, SX.evInt, SX.evStr, SX.evEq, SX.arith, SX.evLoad, SX.shapeUp, SX.evFieldAddr, SX.evField, SX.evIndexAddr, SX.evIndex, SX.evFill, SX.evBuild, SX.szs, SX.cellsV, SX.evNew, SX.evStore, SX.spliceL, SX.SV.cells, SX.evConv, SX.evSlice, SX.bnd, SX.evNil, SX.evUn, SX.evPick, SX.pickOpd, SX.popTo, SX.cnd, SX.env0, SX.TD.isAgg, SX.TD.isIface, SX.tails, SX.NotAgg, SX.evLookup, SX.evConvH, SX.evPtrEq, SX.isCells, SX.thaw, SX.frz, SX.fixB, SX.rootIx, SX.Froz, SX.frzStep, SX.fork, Go.Value.cells, Go.undef, cfg15]
    refine ⟨by (unfold SX.Ob; first | trivial | omega | ((try simp only [SX.inK]); (try simp [SX.den, SX.IsU8, SX.AllP, *]); (try omega))), ?_⟩
    intro a6 w6 hr6' _
    have hr6 := hr5.unbase hr6'
    exact post_rnd (L.length - (k + 1)) (by omega) ⟨k + 1, _, V5, rfl, hlt, by simp; omega, fun y hy => (by
      rcases List.mem_append.1 hy with h | h
      · exact hA2r y h
      · simp only [List.mem_cons, List.not_mem_nil, or_false] at h
        rcases h with rfl | rfl <;> omega), hO5.keep hr6'.keeps (by simp [frameAt, mutB]), hr6.re (by simp [envTo, SX.look, den]) trivial rfl rfl⟩
  obtain rfl : k = L.length := by omega
  obtain ⟨q, hq⟩ : ∃ q, L.length = q + 1 := ⟨L.length - 1, by have := hC.ne; omega⟩
  have hqL : q < L.length := by omega
  obtain ⟨b, o0, cap, u, fz, hP, hv, hrep⟩ := hL2.opn hqL
  cases hv
  obtain ⟨y, hy⟩ : ∃ y, nth spn0 L q = y := ⟨_, rfl⟩
  have hey := endS_nth L 0 q hq
  rw [hy] at hey
  have hq2 : (L.length : Int) - 1 = (q : Int) := by omega
  have hq3 : (0 : Int) < (L.length : Int) := by omega
  obtain ⟨ada, cpa, rfl⟩ := hO2.slice
  have h3 := (hr2.top 0 (.sl 0 b o0 0 L.length cp 4) rfl (by simp [den])).see _ (HpAll.one hrep)
  refine seg cfg15_ok mixed PanicFree.body 1000 [false, true] [] h3.rebase (by first | trivial | exact HpRep.nil | assumption) (by kernel_rfl) fun s_ hs_ => ?_
  simp (maxSteps := 10000000) [SX.vc, SX.stop, SX.contS, SX.contB, SX.contW, SX.contR, SX.contD, SX.sxStep, SX.stepPure, SX.stepNew, SX.stepStore, SX.stepKeep, SX.guardIx, SX.evOp, SX.opd, SX.opds, SX.optOpd, SX.look, SX.putS, SX.gobs, SX.AllP, SX.leave, SX.lookC, SX.lookB, SX.lookT, SX.lookN, SX.findK, SX.evBuiltin, SX.ints, SX.foldI, SX.evBin, SX.evInt, SX.evStr, SX.evEq, SX.arith, SX.evLoad, SX.shapeUp, SX.evFieldAddr, SX.evField, SX.evIndexAddr, SX.evIndex, SX.evFill, SX.evBuild, SX.szs, SX.cellsV, SX.evNew, SX.evStore, SX.spliceL, SX.SV.cells, SX.evConv, SX.evSlice, SX.bnd, SX.evNil, SX.evUn, SX.evPick, SX.pickOpd, SX.popTo, SX.cnd, SX.env0, SX.TD.isAgg, SX.TD.isIface, SX.tails, SX.NotAgg, SX.evLookup, SX.evConvH, SX.evPtrEq, SX.isCells, SX.thaw, SX.frz, SX.fixB, SX.rootIx, SX.Froz, SX.frzStep, SX.fork, Go.Value.cells, Go.undef, cfg15, spnC, hq2, hq3, hy]
  refine ⟨by (unfold SX.Ob; first | trivial | omega | ((try simp only [SX.inK]); (try simp [SX.den, SX.IsU8, SX.AllP, *]); (try omega))), ?_⟩
  intro a4 w4 hr4' _
  have hr4 := (h3.unbase hr4').see [] trivial
  have z4 : w.heap.size ≤ w4.heap.size := hr4.keeps.size
  have hA4 := (hO2.keep hr4'.keeps (by simp [frameAt, mutB])).rd.mono (P' := fun x => x < w4.heap.size) fun x h _ => h
  refine post_loop (E2Loop w4 (.slice ada A2.length cpa) A2 y.to) A2.length ⟨0, [], .slice none 0 0, rfl, by omega, by simp, by simp, OwS.nil, hr4.rebase.re (by simp [envTo, SX.look, den]) trivial rfl rfl⟩ ?_
  rintro m a5 w5 ⟨i, E, ve, rfl, hi, hEl, hEr, hO5, hr5⟩
  by_cases hlti : i < A2.length
  · obtain ⟨b2, o2, cap2, u2, fz2, hP2, hv2, hrep2⟩ := hA4.opn hlti
    cases hv2
    have hrep2' := KeepsTo.same (M := []) hr5.keeps hrep2 (by simp)
    obtain ⟨x, hx⟩ : ∃ x, nth (0 : Int) A2 i = x := ⟨_, rfl⟩
    have hxr := hA2r x (hx ▸ nth_mem hlti)
    have h6 := (hr5.top 36 (.sl 0 b2 o2 0 A2.length cpa 1) rfl (by simp [den])).see _ (HpAll.one hrep2')
    refine seg cfg15_ok mixed PanicFree.body 1000 [true] [] h6.rebase (by first | trivial | exact HpRep.nil | assumption) (by kernel_rfl) fun s_ hs_ => ?_
    simp (maxSteps := 10000000) [SX.vc, SX.stop, SX.contS, SX.contB, SX.contW, SX.contR, SX.contD, SX.sxStep, SX.stepPure, SX.stepNew, SX.stepStore, SX.stepKeep, SX.guardIx, SX.evOp, SX.opd, SX.opds, SX.optOpd, SX.look, SX.putS, SX.gobs, SX.AllP, SX.leave, SX.lookC, SX.lookB, SX.lookT, SX.lookN, SX.findK, SX.evBuiltin, SX.ints, SX.foldI, SX.evBin, SX.evInt, SX.evStr, SX.evEq, SX.arith, SX.evLoad, SX.shapeUp, SX.evFieldAddr, SX.evField, SX.evIndexAddr, SX.evIndex, SX.evFill, SX.evBuild, SX.szs, SX.cellsV, SX.evNew, SX.evStore, SX.spliceL, SX.SV.cells, SX.evConv, SX.evSlice, SX.bnd, SX.evNil, SX.evUn, SX.evPick, SX.pickOpd, SX.popTo, SX.cnd, SX.env0, SX.TD.isAgg, SX.TD.isIface, SX.tails, SX.NotAgg, SX.evLookup, SX.evConvH, SX.evPtrEq, SX.isCells, SX.thaw, SX.frz, SX.fixB, SX.rootIx, SX.Froz, SX.frzStep, SX.fork, Go.Value.cells, Go.undef, cfg15, intC, hx]
    refine ⟨by (unfold SX.Ob; first | trivial | omega | ((try simp only [SX.inK]); (try simp [SX.den, SX.IsU8, SX.AllP, *]); (try omega))), ?_⟩
    intro a7 w7 hr7' _
    have hr7 := h6.unbase hr7'
    have hO7 := hO5.keep hr7'.keeps (by simp [frameAt, mutB])
    refine post_loop (E3Loop w4 (.slice (some ⟨b2, o2, none⟩) A2.length cpa) A2 y.to i x) 3 ⟨0, E, ve, rfl, by omega, by omega, hEr, hO7, hr7.re (by simp [envTo, SX.look, den]) trivial rfl rfl⟩ ?_
    rintro m a8 w8 ⟨j, E8, ve8, rfl, hj, hEl8, hEr8, hO8, hr8⟩
    have z8 : w4.heap.size ≤ w8.heap.size := hr8.keeps.size
    by_cases hlt3 : j < 3
    · obtain ⟨p, hp⟩ : ∃ p, x - 1 + (j : Int) = p := ⟨_, rfl⟩
      rw [hp] at hr8
      have hp1 : p ≤ x + 1 := by omega
      have hp2 : p + 1 = x - 1 + ((j + 1 : Nat) : Int) := by omega
      by_cases hp0 : 0 ≤ p
      · by_cases hpy : p < y.to
        · refine seg cfg15_ok mixed PanicFree.body 1000 [true, true] [(52, true)] hr8.rebase (by first | trivial | exact HpRep.nil | assumption) (by kernel_rfl) fun s_ hs_ => ?_
          simp (maxSteps := 10000000) [SX.vc, SX.stop, SX.contS, SX.contB, SX.contW, SX.contR, SX.contD, SX.sxStep, SX.stepPure, SX.stepNew, SX.stepStore, SX.stepKeep, SX.guardIx, SX.evOp, SX.opd, SX.opds, SX.optOpd, SX.look, SX.putS, SX.gobs, SX.AllP, SX.leave, SX.lookC, SX.lookB, SX.lookT, SX.lookN, SX.findK, SX.evBuiltin, SX.ints, SX.foldI, SX.evBin, SX.evInt, SX.evStr, SX.evEq, SX.arith, SX.evLoad, SX.shapeUp, SX.evFieldAddr, SX.evField, SX.evIndexAddr, SX.evIndex, SX.evFill, SX.evBuild, SX.szs, SX.cellsV, SX.evNew, SX.evStore, SX.spliceL, SX.SV.cells, SX.evConv, SX.evSlice, SX.bnd, SX.evNil, SX.evUn, SX.evPick, SX.pickOpd, SX.popTo, SX.cnd, SX.env0, SX.TD.isAgg, SX.TD.isIface, SX.tails, SX.NotAgg, SX.evLookup, SX.evConvH, SX.evPtrEq, SX.isCells, SX.thaw, SX.frz, SX.fixB, SX.rootIx, SX.Froz, SX.frzStep, SX.fork, Go.Value.cells, Go.undef, cfg15, hp1, hp0, hpy]
          refine ⟨by (unfold SX.Ob; first | trivial | omega | ((try simp only [SX.inK]); (try simp [SX.den, SX.IsU8, SX.AllP, *]); (try omega))), ?_⟩
          intro a9 w9 hr9' _
          have hr9 := hr8.unbase hr9'
          have z9 : w4.heap.size ≤ w9.heap.size := hr9.keeps.size
          have hO9 := hO8.keep hr9'.keeps (by simp [frameAt, mutB])
          refine post_app (C := cfg15) cfg15_ok hr9 (by first | exact wanted_none rfl | exact wanted_zero (hr9.env.same rfl rfl rfl rfl) rfl (by simp)) rfl (by simp) rfl rfl rfl rfl rfl rfl rfl rfl rfl (by decide) (flatI _) (by (try simp only [List.length_append, List.length_cons, List.length_nil, List.length_map, List.length_take]); omega) (fun x hx => Nat.le_trans z9 hx) hO9 (RdS.lit (x := p) hr9.all.1.1 (by simp [intC])) [] (fun _ _ _ _ => trivial) (fun x hx => .inl hx) fun V10 a10 w10 B10 hO10 hB10 hk10 hr10 => ?_
          refine seg cfg15_ok mixed PanicFree.body 1000 [] [] hr10.rebase (by first | trivial | exact HpRep.nil | assumption) (by kernel_rfl) fun s_ hs_ => ?_
          simp (maxSteps := 10000000) [SX.vc, SX.stop, SX.contS, SX.contB, SX.contW, SX.contR, SX.contD, SX.sxStep, SX.stepPure, SX.stepNew, SX.stepStore, SX.stepKeep, SX.guardIx, SX.evOp, SX.opd, SX.opds, SX.optOpd, SX.look, SX.putS, SX.gobs, SX.AllP, SX.leave, SX.lookC, SX.lookB, SX.lookT, SX.lookN, SX.findK, SX.evBuiltin, SX.ints, SX.foldI, SX.evBin, SX.evInt, SX.evStr, SX.evEq, SX.arith, SX.evLoad, SX.shapeUp, SX.evFieldAddr, SX.evField, SX.evIndexAddr, SX.evIndex, SX.evFill, SX.evBuild, SX.szs, SX.cellsV, SX.evNew, SX.evStore, SX.spliceL, SX.SV.cells, SX.evConv, SX.evSlice, SX.bnd, SX.evNil, SX.evUn, SX.evPick, SX.pickOpd, SX.popTo, SX.cnd, SX.env0, SX.TD.isAgg, SX.TD.isIface, SX.tails, SX.NotAgg, SX.evLookup, SX.evConvH, SX.evPtrEq, SX.isCells, SX.thaw, SX.frz, SX.fixB, SX.rootIx, SX.Froz, SX.frzStep, SX.fork, Go.Value.cells, Go.undef, cfg15]
          refine ⟨by (unfold SX.Ob; first | trivial | omega | ((try simp only [SX.inK]); (try simp [SX.den, SX.IsU8, SX.AllP, *]); (try omega))), ?_⟩
          intro a11 w11 hr11' _
          have hr11 := hr10.unbase hr11'
          exact post_rnd (3 - (j + 1)) (by omega) ⟨j + 1, _, V10, rfl, by omega, by simp; omega, fun z hz => (by
            rcases List.mem_append.1 hz with h | h
            · exact hEr8 z h
            · simp only [List.mem_singleton] at h
              subst h
              exact ⟨hp0, hpy⟩), hO10.keep hr11'.keeps (by simp [frameAt, mutB]), hr11.re (by simp [envTo, SX.look, den]; omega) trivial rfl rfl⟩
        · refine seg cfg15_ok mixed PanicFree.body 1000 [true, false] [(52, true)] hr8.rebase (by first | trivial | exact HpRep.nil | assumption) (by kernel_rfl) fun s_ hs_ => ?_
          simp (maxSteps := 10000000) [SX.vc, SX.stop, SX.contS, SX.contB, SX.contW, SX.contR, SX.contD, SX.sxStep, SX.stepPure, SX.stepNew, SX.stepStore, SX.stepKeep, SX.guardIx, SX.evOp, SX.opd, SX.opds, SX.optOpd, SX.look, SX.putS, SX.gobs, SX.AllP, SX.leave, SX.lookC, SX.lookB, SX.lookT, SX.lookN, SX.findK, SX.evBuiltin, SX.ints, SX.foldI, SX.evBin, SX.evInt, SX.evStr, SX.evEq, SX.arith, SX.evLoad, SX.shapeUp, SX.evFieldAddr, SX.evField, SX.evIndexAddr, SX.evIndex, SX.evFill, SX.evBuild, SX.szs, SX.cellsV, SX.evNew, SX.evStore, SX.spliceL, SX.SV.cells, SX.evConv, SX.evSlice, SX.bnd, SX.evNil, SX.evUn, SX.evPick, SX.pickOpd, SX.popTo, SX.cnd, SX.env0, SX.TD.isAgg, SX.TD.isIface, SX.tails, SX.NotAgg, SX.evLookup, SX.evConvH, SX.evPtrEq, SX.isCells, SX.thaw, SX.frz, SX.fixB, SX.rootIx, SX.Froz, SX.frzStep, SX.fork, Go.Value.cells, Go.undef, cfg15, hp1, hp0, hpy]
          refine ⟨by (unfold SX.Ob; first | trivial | omega | ((try simp only [SX.inK]); (try simp [SX.den, SX.IsU8, SX.AllP, *]); (try omega))), ?_⟩
          intro a9 w9 hr9' _
          have hr9 := hr8.unbase hr9'
          exact post_rnd (3 - (j + 1)) (by omega) ⟨j + 1, E8, ve8, rfl, by omega, by omega, hEr8, hO8.keep hr9'.keeps (by simp [frameAt, mutB]), hr9.re (by simp [envTo, SX.look, den]; omega) trivial rfl rfl⟩
      · refine seg cfg15_ok mixed PanicFree.body 1000 [true, false] [(52, false)] hr8.rebase (by first | trivial | exact HpRep.nil | assumption) (by kernel_rfl) fun s_ hs_ => ?_
        simp (maxSteps := 10000000) [SX.vc, SX.stop, SX.contS, SX.contB, SX.contW, SX.contR, SX.contD, SX.sxStep, SX.stepPure, SX.stepNew, SX.stepStore, SX.stepKeep, SX.guardIx, SX.evOp, SX.opd, SX.opds, SX.optOpd, SX.look, SX.putS, SX.gobs, SX.AllP, SX.leave, SX.lookC, SX.lookB, SX.lookT, SX.lookN, SX.findK, SX.evBuiltin, SX.ints, SX.foldI, SX.evBin, SX.evInt, SX.evStr, SX.evEq, SX.arith, SX.evLoad, SX.shapeUp, SX.evFieldAddr, SX.evField, SX.evIndexAddr, SX.evIndex, SX.evFill, SX.evBuild, SX.szs, SX.cellsV, SX.evNew, SX.evStore, SX.spliceL, SX.SV.cells, SX.evConv, SX.evSlice, SX.bnd, SX.evNil, SX.evUn, SX.evPick, SX.pickOpd, SX.popTo, SX.cnd, SX.env0, SX.TD.isAgg, SX.TD.isIface, SX.tails, SX.NotAgg, SX.evLookup, SX.evConvH, SX.evPtrEq, SX.isCells, SX.thaw, SX.frz, SX.fixB, SX.rootIx, SX.Froz, SX.frzStep, SX.fork, Go.Value.cells, Go.undef, cfg15, hp1, hp0]
        refine ⟨by (unfold SX.Ob; first | trivial | omega | ((try simp only [SX.inK]); (try simp [SX.den, SX.IsU8, SX.AllP, *]); (try omega))), ?_⟩
        intro a9 w9 hr9' _
        have hr9 := hr8.unbase hr9'
        exact post_rnd (3 - (j + 1)) (by omega) ⟨j + 1, E8, ve8, rfl, by omega, by omega, hEr8, hO8.keep hr9'.keeps (by simp [frameAt, mutB]), hr9.re (by simp [envTo, SX.look, den]; omega) trivial rfl rfl⟩
    · obtain rfl : j = 3 := by omega
      obtain ⟨p, hp⟩ : ∃ p, x - 1 + ((3 : Nat) : Int) = p := ⟨_, rfl⟩
      rw [hp] at hr8
      have hp1 : ¬ p ≤ x + 1 := by omega
      refine seg cfg15_ok mixed PanicFree.body 1000 [false] [] hr8.rebase (by first | trivial | exact HpRep.nil | assumption) (by kernel_rfl) fun s_ hs_ => ?_
      simp (maxSteps := 10000000) [SX.vc, SX.stop, SX.contS, SX.contB, SX.contW, SX.contR, SX.contD, SX.sxStep, SX.stepPure, SX.stepNew, SX.stepStore, SX.stepKeep, SX.guardIx, SX.evOp, SX.opd, SX.opds, SX.optOpd, SX.look, SX.putS, SX.gobs, SX.AllP, SX.leave, SX.lookC, SX.lookB, SX.lookT, SX.lookN, SX.findK, SX.evBuiltin, SX.ints, SX.foldI, SX.evBin, SX.evInt, SX.evStr, SX.evEq, SX.arith, SX.evLoad, SX.shapeUp, SX.evFieldAddr, SX.evField, SX.evIndexAddr, SX.evIndex, SX.evFill, SX.evBuild, SX.szs, SX.cellsV, SX.evNew, SX.evStore, SX.spliceL, SX.SV.cells, SX.evConv, SX.evSlice, SX.bnd, SX.evNil, SX.evUn, SX.evPick, SX.pickOpd, SX.popTo, SX.cnd, SX.env0, SX.TD.isAgg, SX.TD.isIface, SX.tails, SX.NotAgg, SX.evLookup, SX.evConvH, SX.evPtrEq, SX.isCells, SX.thaw, SX.frz, SX.fixB, SX.rootIx, SX.Froz, SX.frzStep, SX.fork, Go.Value.cells, Go.undef, cfg15, hp1]
      refine ⟨by (unfold SX.Ob; first | trivial | omega | ((try simp only [SX.inK]); (try simp [SX.den, SX.IsU8, SX.AllP, *]); (try omega))), ?_⟩
      intro a9 w9 hr9' _
      have hr9 := hr8.unbase hr9'
      exact post_rnd (A2.length - (i + 1)) (by omega) ⟨i + 1, E8, ve8, rfl, by omega, by omega, hEr8, hO8.keep hr9'.keeps (by simp [frameAt, mutB]), hr9.re (by simp [envTo, SX.look, den]) trivial rfl rfl⟩
  · obtain rfl : i = A2.length := by omega
    refine seg cfg15_ok mixed PanicFree.body 1000 [false] [] hr5.rebase (by first | trivial | exact HpRep.nil | assumption) (by kernel_rfl) fun s_ hs_ => ?_
    simp (maxSteps := 10000000) [SX.vc, SX.stop, SX.contS, SX.contB, SX.contW, SX.contR, SX.contD, SX.sxStep, SX.stepPure, SX.stepNew, SX.stepStore, SX.stepKeep, SX.guardIx, SX.evOp, SX.opd, SX.opds, SX.optOpd, SX.look, SX.putS, SX.gobs, SX.AllP, SX.leave, SX.lookC, SX.lookB, SX.lookT, SX.lookN, SX.findK, SX.evBuiltin, SX.ints, SX.foldI, SX.evBin, SX.evInt, SX.evStr, SX.evEq, SX.arith, SX.evLoad, SX.shapeUp, SX.evFieldAddr, SX.evField, SX.evIndexAddr, SX.evIndex, SX.evFill, SX.evBuild, SX.szs, SX.cellsV, SX.evNew, SX.evStore, SX.spliceL, SX.SV.cells, SX.evConv, SX.evSlice, SX.bnd, SX.evNil, SX.evUn, SX.evPick, SX.pickOpd, SX.popTo, SX.cnd, SX.env0, SX.TD.isAgg, SX.TD.isIface, SX.tails, SX.NotAgg, SX.evLookup, SX.evConvH, SX.evPtrEq, SX.isCells, SX.thaw, SX.frz, SX.fixB, SX.rootIx, SX.Froz, SX.frzStep, SX.fork, Go.Value.cells, Go.undef, cfg15]
    refine ⟨by (unfold SX.Ob; first | trivial | omega | ((try simp only [SX.inK]); (try simp [SX.den, SX.IsU8, SX.AllP, *]); (try omega))), ?_⟩
    intro a7 w7 hr7' _
    have hr7a := hr5.unbase hr7'
    have hr7 := hr4.unbase hr7a
    have hO7 := hO5.keep hr7'.keeps (by simp [frameAt, mutB])
    refine post_retn (end1 hr7 rfl rfl ⟨_, E, rfl, ?_, by rw [hey]; exact hEr, by omega, hr7.keeps⟩).1
    exact hO7.rd.mono fun x _ h => by omega
end Go.Proofs
