/- The cache: keys as a list; few; there; a Put that may not be. -/
import Derived.Test.YtppgccbloaijoaaCO
import Derived.Test.YtppgccbloaijoaaSxO
import Derived.Test.YtppgccbloaijoaaSxS
namespace Go.Proofs
set_option linter.unusedVariables false
set_option linter.unusedSimpArgs false
set_option linter.unusedSectionVars false
open Go Go.SX Go.RowKit Go.Ring

def keyC (p : Int × Int) : List SV := [.v (.int .i64 p.1), .v (.int .i64 p.2)]
def key0 : Int × Int := (0, 0)
abbrev RdK := RdS keyC 2 key0
def keysL (A : List It) : List (Int × Int) := A.map fun x => (x.lba, x.ver)

theorem keysR_ok (P : Nat → Prop) (w : World) (c : Nat) (most hits fails : Int) (A : List It) (hS : CS P w c most hits fails A) (hlen : A.length ≤ 1000000) :
    Calls Try.prog 12 (denL [.v (.pointer (some ⟨c, 0, none⟩))]).toArray w (fun e w' => ∃ v, e = .returned v ∧ RdK (fun x => w.heap.size ≤ x) w' v (keysL A) ∧ Below w.heap.size w w') := by
  refine (keys_okS P w c most hits fails A hS hlen).mono ?_
  rintro e w' ⟨x, H, hx, rfl, hH, hb⟩
  refine ⟨den x, rfl, ?_, hb⟩
  rcases hx with ⟨h1, rfl, rfl⟩ | ⟨b, cap, N, row, u, h1, h2, rfl, rfl, h4, h5, h6⟩
  · have : A = [] := List.length_eq_zero_iff.1 h1
    subst this
    exact .inl ⟨rfl, _, _, rfl⟩
  · refine .inr ⟨by simpa [keysL] using h1, b, 0, cap, u, (0, 0), h2, by simp [den, keysL], rep_arr_sub hH.1.1 (by simp [keysL]; omega) (fun j hj => ?_), by simpa [keysL] using h4⟩
    have hj' : j < A.length := by simpa [keysL] using hj
    obtain ⟨z, hz, hr⟩ := h6 j hj'
    rw [hr]
    have e1 : A[j] = z := by
      have := List.getElem?_eq_getElem hj'
      rw [this] at hz
      exact Option.some.inj hz
    have e2 : nth key0 (keysL A) j = (z.lba, z.ver) := by
      rw [nth_lt hj]
      simp [keysL, e1]
    rw [e2]
    rfl

def hasKey (A : List It) (k : Int × Int) : Prop := k ∈ keysL A
instance (A : List It) (k : Int × Int) : Decidable (hasKey A k) := by unfold hasKey; infer_instance
def ThLoop (w : World) (K : List (Int × Int)) (v : Value) (k : Int × Int) (sK z : Nat) (m : Nat) (a : Act) (w' : World) : Prop :=
  ∃ j : Nat, m = K.length - j ∧ j ≤ K.length ∧ (∀ i, i < j → nth key0 K i ≠ k) ∧ RdK (fun x => x ≠ sK ∧ x < z) w' v K ∧ z ≤ w'.heap.size ∧ RepX (frame0 w) ⟨[(10, 0, .v (.int .i64 j)), (9, 0, .v (.int .i64 K.length)), (8, 0, .v v), (3, 0, .ptr 0 sK 0), (4, 0, .v (.bool false))], [(sK, true, .cells (keyC k) 41)], 0, 0, 18, [], [], []⟩ a w'

set_option maxRecDepth 100000 in
set_option maxHeartbeats 16000000 in
/-- there. -/
theorem there_ok (P : Nat → Prop) (w : World) (c : Nat) (most hits fails : Int) (A : List It) (hS : CS P w c most hits fails A) (hlen : A.length ≤ 1000000) (k : Int × Int) :
    Calls Try.prog 14 (denL [.v (.pointer (some ⟨c, 0, none⟩)), .ag (keyC k)]).toArray w (fun e w' => e = .returned (den (.v (.bool (decide (hasKey A k))))) ∧ Below w.heap.size w w') := by
  refine enter (F := frame0 w) Try.func14 rfl [.v (.pointer (some ⟨c, 0, none⟩)), .ag (keyC k)] [] (by simp [Try.f14]) trivial (keeps0 w) fun a hr => ?_
  refine seg cfg14_ok mixed PanicFree.body 1000 [] [] hr (by first | trivial | exact HpRep.nil | assumption) (by kernel_rfl) fun sK hsK => ?_
  simp (maxSteps := 10000000) [SX.vc, SX.stop, SX.contS, SX.contB, SX.contW, SX.contR, SX.contD, SX.sxStep, SX.stepPure, SX.stepNew, SX.stepStore, SX.stepKeep, SX.guardIx, SX.evOp, SX.opd, SX.opds, SX.optOpd, SX.look, SX.putS, SX.gobs, SX.AllP, SX.leave, SX.lookC, SX.lookB, SX.lookT, SX.lookN, SX.findK, SX.evBuiltin, SX.ints, SX.foldI, SX.evBin, SX.evInt, SX.evStr, SX.evEq, SX.arith, SX.evLoad, SX.shapeUp, SX.evFieldAddr, SX.evField, SX.evIndexAddr, SX.evIndex, SX.evFill, SX.evBuild, SX.szs, SX.cellsV, SX.evNew, SX.evStore, SX.spliceL, SX.SV.cells, SX.evConv, SX.evSlice, SX.bnd, SX.evNil, SX.evUn, SX.evPick, SX.pickOpd, SX.popTo, SX.cnd, SX.env0, SX.TD.isAgg, SX.TD.isIface, SX.tails, SX.NotAgg, SX.evLookup, SX.evConvH, SX.evPtrEq, SX.isCells, SX.thaw, SX.frz, SX.fixB, SX.rootIx, SX.Froz, SX.frzStep, SX.fork, Go.Value.cells, Go.undef, cfg14, Try.f14, keyC]
  refine ⟨by (unfold SX.Ob; first | trivial | omega | ((try simp only [SX.inK]); (try simp [SX.den, SX.IsU8, SX.AllP, *]); (try omega))), ?_⟩
  intro a1 w1 hr1 _
  refine post_call 12 [.v (.pointer (some ⟨c, 0, none⟩))] hr1 (wanted_none rfl) rfl (callable 12 Try.func12) (keysR_ok P w1 c most hits fails A (hS.keep hr1.keeps.toBelow) hlen) ?_
  rintro e2 w2 ⟨v2, rfl, hK2, hb2⟩
  refine ⟨_, rfl, ?_⟩
  have h2 := hr1.ret hb2 8 (.v v2) rfl _ (hr1.all.below hb2) (by simp) rfl
  obtain ⟨K, hK⟩ : ∃ K, keysL A = K := ⟨_, rfl⟩
  have hKl : K.length ≤ 1000000 := by rw [← hK]; simpa [keysL] using hlen
  rw [hK] at hK2
  have lsK := SO.rep_lt hr1.all.1.1
  have hK2' := hK2.mono (P' := fun x => x ≠ sK) fun x _ h => by omega
  obtain ⟨ad, cp, rfl⟩ := hK2'.slice
  refine seg cfg14_ok mixed PanicFree.body 1000 [] [] h2.rebase (by first | trivial | exact HpRep.nil | assumption) (by kernel_rfl) fun s_ hs_ => ?_
  simp (maxSteps := 10000000) [SX.vc, SX.stop, SX.contS, SX.contB, SX.contW, SX.contR, SX.contD, SX.sxStep, SX.stepPure, SX.stepNew, SX.stepStore, SX.stepKeep, SX.guardIx, SX.evOp, SX.opd, SX.opds, SX.optOpd, SX.look, SX.putS, SX.gobs, SX.AllP, SX.leave, SX.lookC, SX.lookB, SX.lookT, SX.lookN, SX.findK, SX.evBuiltin, SX.ints, SX.foldI, SX.evBin, SX.evInt, SX.evStr, SX.evEq, SX.arith, SX.evLoad, SX.shapeUp, SX.evFieldAddr, SX.evField, SX.evIndexAddr, SX.evIndex, SX.evFill, SX.evBuild, SX.szs, SX.cellsV, SX.evNew, SX.evStore, SX.spliceL, SX.SV.cells, SX.evConv, SX.evSlice, SX.bnd, SX.evNil, SX.evUn, SX.evPick, SX.pickOpd, SX.popTo, SX.cnd, SX.env0, SX.TD.isAgg, SX.TD.isIface, SX.tails, SX.NotAgg, SX.evLookup, SX.evConvH, SX.evPtrEq, SX.isCells, SX.thaw, SX.frz, SX.fixB, SX.rootIx, SX.Froz, SX.frzStep, SX.fork, Go.Value.cells, Go.undef, cfg14]
  refine ⟨by (unfold SX.Ob; first | trivial | omega | ((try simp only [SX.inK]); (try simp [SX.den, SX.IsU8, SX.AllP, *]); (try omega))), ?_⟩
  intro a3 w3 hr3' _
  have hr3 := h2.unbase hr3'
  have hK3 := hK2'.keep hr3'.keeps (by simp [frameAt, mutB])
  have hK3' := hK3.mono (P' := fun x => x ≠ sK ∧ x < w3.heap.size) fun x h1 h2 => ⟨h2, h1⟩
  refine post_loop (ThLoop w K (.slice ad K.length cp) k sK w3.heap.size) K.length ⟨0, rfl, by omega, by omega, hK3', Nat.le_refl _, hr3.re (by simp [envTo, SX.look]) hr3.all rfl rfl⟩ ?_
  clear hr hr1 h2 hr3 hr3' hK2 hK2' hK3 hK3'
  rintro m a4 w4 ⟨j, rfl, hj, hno, hK4, hz4, hr4⟩
  by_cases hlt : j < K.length
  · obtain ⟨b, o0, cap, u, fz, hP, hv, hrep⟩ := hK4.opn hlt
    cases hv
    obtain ⟨y, hy⟩ : ∃ y, nth key0 K j = y := ⟨_, rfl⟩
    have hA4 := hr4.all
    have h5 := (hr4.top 8 (.sl 1 b o0 0 K.length cp 2) rfl (by simp [den])).see [(sK, true, .cells (keyC k) 41), (b, false, .arr o0 K.length (fun j => keyC (nth key0 K j)) 2 u fz)] ⟨⟨hA4.1.1, hA4.1.2.1, by simp; omega⟩, HpAll.one hrep⟩
    refine seg cfg14_ok mixed PanicFree.body 1000 [true] [] h5.rebase (by first | trivial | exact HpRep.nil | assumption) (by kernel_rfl) fun sX hsX => ?_
    simp (maxSteps := 10000000) [SX.vc, SX.stop, SX.contS, SX.contB, SX.contW, SX.contR, SX.contD, SX.sxStep, SX.stepPure, SX.stepNew, SX.stepStore, SX.stepKeep, SX.guardIx, SX.evOp, SX.opd, SX.opds, SX.optOpd, SX.look, SX.putS, SX.gobs, SX.AllP, SX.leave, SX.lookC, SX.lookB, SX.lookT, SX.lookN, SX.findK, SX.evBuiltin, SX.ints, SX.foldI, SX.evBin, SX.evInt, SX.evStr, SX.evEq, SX.arith, SX.evLoad, SX.shapeUp, SX.evFieldAddr, SX.evField, SX.evIndexAddr, SX.evIndex, SX.evFill, SX.evBuild, SX.szs, SX.cellsV, SX.evNew, SX.evStore, SX.spliceL, SX.SV.cells, SX.evConv, SX.evSlice, SX.bnd, SX.evNil, SX.evUn, SX.evPick, SX.pickOpd, SX.popTo, SX.cnd, SX.env0, SX.TD.isAgg, SX.TD.isIface, SX.tails, SX.NotAgg, SX.evLookup, SX.evConvH, SX.evPtrEq, SX.isCells, SX.thaw, SX.frz, SX.fixB, SX.rootIx, SX.Froz, SX.frzStep, SX.fork, Go.Value.cells, Go.undef, cfg14, keyC, hy]
    refine ⟨by (unfold SX.Ob; first | trivial | omega | ((try simp only [SX.inK]); (try simp [SX.den, SX.IsU8, SX.AllP, *]); (try omega))), ?_⟩
    intro a6 w6 hr6' _
    have hr6 := h5.unbase hr6'
    have hK6 := hK4.keep hr6'.keeps (by simp [frameAt, mutB])
    have lsX : w4.heap.size ≤ sX := by
      rcases hr6'.all.2.2.1.2.1 rfl with h | h
      · exact h
      · have := SO.rep_lt hA4.1.1
        simp [frameAt, mutB] at h; omega
    have z46 : (frameAt w4 ([] : Hp)).w0.heap.size ≤ w6.heap.size := hr6'.keeps.size
    simp only [frameAt] at z46
    refine post_eqP (C := cfg14) cfg14_ok (ok := fun _ => false) (by simp) hr6 rfl rfl rfl (by kernel_rfl) (b := y.1 == k.1 && y.2 == k.2) (by simp [evEqA, evEqI, eqPlain, cfg14, lookT, shapeUp, TD.isAgg, List.range, List.range.loop]) (wanted_none rfl) rfl (by simp) rfl fun a7 hr7 => ?_
    simp only [SX.eqR] at hr7
    by_cases hyk : y = k
    · have hq : (y.1 == k.1 && y.2 == k.2) = true := by rw [hyk]; simp
      have hm : hasKey A k := by unfold hasKey; rw [hK, ← hyk, ← hy]; exact nth_mem hlt
      rw [hq] at hr7
      refine seg cfg14_ok mixed PanicFree.body 1000 [true] [] hr7 (by first | trivial | exact HpRep.nil | assumption) (by kernel_rfl) fun s_ hs_ => ?_
      simp (maxSteps := 10000000) [SX.vc, SX.stop, SX.contS, SX.contB, SX.contW, SX.contR, SX.contD, SX.sxStep, SX.stepPure, SX.stepNew, SX.stepStore, SX.stepKeep, SX.guardIx, SX.evOp, SX.opd, SX.opds, SX.optOpd, SX.look, SX.putS, SX.gobs, SX.AllP, SX.leave, SX.lookC, SX.lookB, SX.lookT, SX.lookN, SX.findK, SX.evBuiltin, SX.ints, SX.foldI, SX.evBin, SX.evInt, SX.evStr, SX.evEq, SX.arith, SX.evLoad, SX.shapeUp, SX.evFieldAddr, SX.evField, SX.evIndexAddr, SX.evIndex, SX.evFill, SX.evBuild, SX.szs, SX.cellsV, SX.evNew, SX.evStore, SX.spliceL, SX.SV.cells, SX.evConv, SX.evSlice, SX.bnd, SX.evNil, SX.evUn, SX.evPick, SX.pickOpd, SX.popTo, SX.cnd, SX.env0, SX.TD.isAgg, SX.TD.isIface, SX.tails, SX.NotAgg, SX.evLookup, SX.evConvH, SX.evPtrEq, SX.isCells, SX.thaw, SX.frz, SX.fixB, SX.rootIx, SX.Froz, SX.frzStep, SX.fork, Go.Value.cells, Go.undef, cfg14]
      refine ⟨by (unfold SX.Ob; first | trivial | omega | ((try simp only [SX.inK]); (try simp [SX.den, SX.IsU8, SX.AllP, *]); (try omega))), ?_⟩
      intro a8 w8 hr8 _
      exact post_retn (end1 hr8 rfl rfl ⟨by rw [decide_eq_true hm], hr8.keeps.toBelow⟩).1
    · have hq : (y.1 == k.1 && y.2 == k.2) = false := by
        rw [Bool.eq_false_iff]
        intro h
        simp only [Bool.and_eq_true, beq_iff_eq] at h
        exact hyk (Prod.ext h.1 h.2)
      rw [hq] at hr7
      refine seg cfg14_ok mixed PanicFree.body 1000 [false] [] hr7.rebase (by first | trivial | exact HpRep.nil | assumption) (by kernel_rfl) fun s_ hs_ => ?_
      simp (maxSteps := 10000000) [SX.vc, SX.stop, SX.contS, SX.contB, SX.contW, SX.contR, SX.contD, SX.sxStep, SX.stepPure, SX.stepNew, SX.stepStore, SX.stepKeep, SX.guardIx, SX.evOp, SX.opd, SX.opds, SX.optOpd, SX.look, SX.putS, SX.gobs, SX.AllP, SX.leave, SX.lookC, SX.lookB, SX.lookT, SX.lookN, SX.findK, SX.evBuiltin, SX.ints, SX.foldI, SX.evBin, SX.evInt, SX.evStr, SX.evEq, SX.arith, SX.evLoad, SX.shapeUp, SX.evFieldAddr, SX.evField, SX.evIndexAddr, SX.evIndex, SX.evFill, SX.evBuild, SX.szs, SX.cellsV, SX.evNew, SX.evStore, SX.spliceL, SX.SV.cells, SX.evConv, SX.evSlice, SX.bnd, SX.evNil, SX.evUn, SX.evPick, SX.pickOpd, SX.popTo, SX.cnd, SX.env0, SX.TD.isAgg, SX.TD.isIface, SX.tails, SX.NotAgg, SX.evLookup, SX.evConvH, SX.evPtrEq, SX.isCells, SX.thaw, SX.frz, SX.fixB, SX.rootIx, SX.Froz, SX.frzStep, SX.fork, Go.Value.cells, Go.undef, cfg14]
      refine ⟨by (unfold SX.Ob; first | trivial | omega | ((try simp only [SX.inK]); (try simp [SX.den, SX.IsU8, SX.AllP, *]); (try omega))), ?_⟩
      intro a8 w8 hr8' _
      have hr8 := hr7.unbase hr8'
      have hA8 := hr8.all
      have z68 : w3.heap.size ≤ w8.heap.size := by
        have h1 : (frameAt w6 ([] : Hp)).w0.heap.size ≤ w8.heap.size := hr8'.keeps.size
        simp only [frameAt] at h1
        omega
      exact post_rnd (K.length - (j + 1)) (by omega) ⟨j + 1, rfl, hlt, fun i hi => (by
        rcases Nat.lt_or_ge i j with h | h
        · exact hno i h
        · obtain rfl : i = j := by omega
          rw [hy]; exact hyk), hK6.keep hr8'.keeps (by simp [frameAt, mutB]; omega), z68, hr8.re (by simp [envTo, SX.look, den]) ⟨⟨hA8.1.1, hA8.1.2.1, by simp⟩, trivial⟩ rfl rfl⟩
  · obtain rfl : j = K.length := by omega
    have hm : ¬ hasKey A k := fun h => by
      unfold hasKey at h
      rw [hK] at h
      obtain ⟨i, hi, hik⟩ := List.mem_iff_getElem.1 h
      have := hno i hi
      rw [nth_lt hi] at this
      exact this hik
    refine seg cfg14_ok mixed PanicFree.body 1000 [false] [] hr4 (by first | trivial | exact HpRep.nil | assumption) (by kernel_rfl) fun s_ hs_ => ?_
    simp (maxSteps := 10000000) [SX.vc, SX.stop, SX.contS, SX.contB, SX.contW, SX.contR, SX.contD, SX.sxStep, SX.stepPure, SX.stepNew, SX.stepStore, SX.stepKeep, SX.guardIx, SX.evOp, SX.opd, SX.opds, SX.optOpd, SX.look, SX.putS, SX.gobs, SX.AllP, SX.leave, SX.lookC, SX.lookB, SX.lookT, SX.lookN, SX.findK, SX.evBuiltin, SX.ints, SX.foldI, SX.evBin, SX.evInt, SX.evStr, SX.evEq, SX.arith, SX.evLoad, SX.shapeUp, SX.evFieldAddr, SX.evField, SX.evIndexAddr, SX.evIndex, SX.evFill, SX.evBuild, SX.szs, SX.cellsV, SX.evNew, SX.evStore, SX.spliceL, SX.SV.cells, SX.evConv, SX.evSlice, SX.bnd, SX.evNil, SX.evUn, SX.evPick, SX.pickOpd, SX.popTo, SX.cnd, SX.env0, SX.TD.isAgg, SX.TD.isIface, SX.tails, SX.NotAgg, SX.evLookup, SX.evConvH, SX.evPtrEq, SX.isCells, SX.thaw, SX.frz, SX.fixB, SX.rootIx, SX.Froz, SX.frzStep, SX.fork, Go.Value.cells, Go.undef, cfg14]
    refine ⟨by (unfold SX.Ob; first | trivial | omega | ((try simp only [SX.inK]); (try simp [SX.den, SX.IsU8, SX.AllP, *]); (try omega))), ?_⟩
    intro a5 w5 hr5 _
    exact post_retn (end1 hr5 rfl rfl ⟨by rw [decide_eq_false hm], hr5.keeps.toBelow⟩).1
end Go.Proofs
