/- Histories: Last and In, as the executor has them. -/
import Derived.Test.YtajppkjbmiemhaaOBc
import Derived.Test.YtajppkjbmiemhaaOZJ
namespace Go.Proofs
set_option linter.unusedVariables false
set_option linter.unusedSimpArgs false
set_option linter.unusedSectionVars false
open Go Go.SX Go.RowKit Go.Hist

def LastR (L : List HEv) (lba : Int) (w : World) (e : Ending) (w' : World) : Prop :=
  ((e = .returned (den (.tu [.ag (evRow zeroEv), .v (.bool false)])) ∧ ∀ j, j < L.length → ¬ ((nth zeroEv L j).lba = lba ∧ (nth zeroEv L j).rd = false)) ∨ (∃ k : Nat, k < L.length ∧ e = .returned (den (.tu [.ag (evRow (nth zeroEv L k)), .v (.bool true)])) ∧ (nth zeroEv L k).lba = lba ∧ (nth zeroEv L k).rd = false ∧ ∀ j, k < j → j < L.length → ¬ ((nth zeroEv L j).lba = lba ∧ (nth zeroEv L j).rd = false))) ∧ Below w.heap.size w w'
theorem last_ok (w : World) (v : Value) (L : List HEv) (lba : Int) (hL : RdH (fun x => x < w.heap.size) w v L) (hn : L.length ≤ 1000) : Calls Try.prog 13 (denL [.v v, .v (.int .i64 lba)]).toArray w (LastR L lba w) := by
  obtain ⟨ad, cp, rfl⟩ := hL.slice
  have hI : Evs w.heap.size w (.slice ad L.length cp) L.length (nth zeroEv L) := by
    rcases Nat.eq_zero_or_pos L.length with h0 | h0
    · exact .inl ⟨ad, cp, by rw [h0], h0⟩
    · obtain ⟨b, o0, cap, u, fz, hP, hv, c, hb, hs, hr⟩ := hL.opn h0
      refine .inr ⟨b, o0, cap, hv, hP, fun j hj => ?_⟩
      have hc : ∀ s v, s < 5 → (denL (evRow (nth zeroEv L j)))[s]? = some v → w.cell? ⟨b, o0 + j * 5 + s, none⟩ = some v := fun s v hs5 hv => by
        have h := (hr j hj).2 s hs5
        rw [hv] at h
        simp only [World.cell?, hb]
        rw [Nat.add_assoc]
        simpa using h
      exact ⟨hc 0 _ (by omega) rfl, hc 1 _ (by omega) rfl, hc 2 _ (by omega) rfl, hc 3 _ (by omega) rfl, hc 4 _ (by omega) rfl⟩
  exact Calls.mono ((callsIn_wide (n := 5)).1 (last_in Fence.wide 5 trivial trivial trivial rfl (by omega) ad L.length cp (nth zeroEv L) lba (by omega) w hI)) fun e w' h => h

set_option maxRecDepth 100000 in
set_option maxHeartbeats 16000000 in
/-- In. -/
theorem in_ok {P : Nat → Prop} (w : World) (v : Value) (K : List Int) (x : Int) (hK : RdS intR 1 (0 : Int) P w v K) (hn : K.length ≤ 1000) (hx : x ∈ K) : Calls Try.prog 14 (denL [.v v, .v (.int .i64 x)]).toArray w (fun e w' => e = .returned (den (.v (.bool true))) ∧ Below w.heap.size w w') := by
  obtain ⟨i0, hi0, hxi⟩ := List.getElem_of_mem hx
  obtain ⟨b, o0, cap, u, fz, hP, rfl, hrep⟩ := hK.opn hi0
  refine enter (F := frame0 w) Try.func14 rfl [.sl 0 b o0 0 K.length cap 1, .v (.int .i64 x)] [(b, false, .arr o0 K.length (fun j => intR (nth (0 : Int) K j)) 1 u fz)] (by simp [Try.f14]) (HpAll.one hrep) (keeps0 w) fun a hr => ?_
  refine seg cfg14_ok mixed PanicFree.body 1000 [] [] hr (by first | trivial | exact HpRep.nil | assumption) (by kernel_rfl) fun s_ hs_ => ?_
  simp (maxSteps := 10000000) [SX.vc, SX.stop, SX.contS, SX.contB, SX.contW, SX.contR, SX.contD, SX.sxStep, SX.stepPure, SX.stepNew, SX.stepStore, SX.stepKeep, SX.guardIx, SX.evOp, SX.opd, SX.opds, SX.optOpd, SX.look, SX.putS, SX.gobs, SX.AllP, SX.leave, SX.lookC, SX.lookB, SX.lookT, SX.lookN, SX.findK, SX.evBuiltin, SX.ints, SX.foldI, SX.evBin, SX.evInt, SX.evStr, SX.evEq, SX.arith, SX.evLoad, SX.shapeUp, SX.evFieldAddr, SX.evField, SX.evIndexAddr, SX.evIndex, SX.evFill, SX.evBuild, SX.szs, SX.cellsV, SX.evNew, SX.evStore, SX.spliceL, SX.SV.cells, SX.evConv, SX.evSlice, SX.bnd, SX.evNil, SX.evUn, SX.evPick, SX.pickOpd, SX.popTo, SX.cnd, SX.env0, SX.TD.isAgg, SX.TD.isIface, SX.tails, SX.NotAgg, SX.evLookup, SX.evConvH, SX.evPtrEq, SX.isCells, SX.thaw, SX.frz, SX.fixB, SX.rootIx, SX.Froz, SX.frzStep, SX.fork, Go.Value.cells, Go.undef, cfg14, Try.f14]
  refine ⟨by (unfold SX.Ob; first | trivial | omega | ((try simp only [SX.inK]); (try simp [SX.den, SX.IsU8, SX.AllP, *]); (try omega))), ?_⟩
  intro a1 w1 hr1 _
  refine post_loop (fun m a w' => ∃ k : Nat, m = i0 + 1 - k ∧ k ≤ i0 ∧ RepX (frame0 w) ⟨[(9, 0, .v (.int .i64 k)), (8, 0, .v (.int .i64 K.length)), (7, 0, .sl 0 b o0 0 K.length cap 1), (1, 0, .v (.int .i64 x))], [(b, false, .arr o0 K.length (fun j => intR (nth (0 : Int) K j)) 1 u fz)], 0, 0, 17, [], [], []⟩ a w') (i0 + 1) ⟨0, rfl, by omega, hr1.re (by simp [envTo, SX.look]) hr1.all rfl rfl⟩ ?_
  rintro m a2 w2 ⟨k, rfl, hk, hr2⟩
  have hlt : (k : Int) < (K.length : Int) := by omega
  have hkl : k < K.length := by omega
  obtain ⟨y, hy⟩ : ∃ y, nth (0 : Int) K k = y := ⟨_, rfl⟩
  by_cases hyx : y = x
  · refine seg cfg14_ok mixed PanicFree.body 1000 [true, true] [] hr2 (by first | trivial | exact HpRep.nil | assumption) (by kernel_rfl) fun s_ hs_ => ?_
    simp (maxSteps := 10000000) [SX.vc, SX.stop, SX.contS, SX.contB, SX.contW, SX.contR, SX.contD, SX.sxStep, SX.stepPure, SX.stepNew, SX.stepStore, SX.stepKeep, SX.guardIx, SX.evOp, SX.opd, SX.opds, SX.optOpd, SX.look, SX.putS, SX.gobs, SX.AllP, SX.leave, SX.lookC, SX.lookB, SX.lookT, SX.lookN, SX.findK, SX.evBuiltin, SX.ints, SX.foldI, SX.evBin, SX.evInt, SX.evStr, SX.evEq, SX.arith, SX.evLoad, SX.shapeUp, SX.evFieldAddr, SX.evField, SX.evIndexAddr, SX.evIndex, SX.evFill, SX.evBuild, SX.szs, SX.cellsV, SX.evNew, SX.evStore, SX.spliceL, SX.SV.cells, SX.evConv, SX.evSlice, SX.bnd, SX.evNil, SX.evUn, SX.evPick, SX.pickOpd, SX.popTo, SX.cnd, SX.env0, SX.TD.isAgg, SX.TD.isIface, SX.tails, SX.NotAgg, SX.evLookup, SX.evConvH, SX.evPtrEq, SX.isCells, SX.thaw, SX.frz, SX.fixB, SX.rootIx, SX.Froz, SX.frzStep, SX.fork, Go.Value.cells, Go.undef, cfg14, hlt, hkl, intR, hy, hyx]
    refine ⟨by (unfold SX.Ob; first | trivial | omega | ((try simp only [SX.inK]); (try simp [SX.den, SX.IsU8, SX.AllP, *]); (try omega))), ?_⟩
    intro a3 w3 hr3 _
    exact post_retn (end1 hr3 rfl rfl ⟨by simp [den], hr3.keeps.toBelow⟩).1
  · refine seg cfg14_ok mixed PanicFree.body 1000 [true, false] [] hr2 (by first | trivial | exact HpRep.nil | assumption) (by kernel_rfl) fun s_ hs_ => ?_
    simp (maxSteps := 10000000) [SX.vc, SX.stop, SX.contS, SX.contB, SX.contW, SX.contR, SX.contD, SX.sxStep, SX.stepPure, SX.stepNew, SX.stepStore, SX.stepKeep, SX.guardIx, SX.evOp, SX.opd, SX.opds, SX.optOpd, SX.look, SX.putS, SX.gobs, SX.AllP, SX.leave, SX.lookC, SX.lookB, SX.lookT, SX.lookN, SX.findK, SX.evBuiltin, SX.ints, SX.foldI, SX.evBin, SX.evInt, SX.evStr, SX.evEq, SX.arith, SX.evLoad, SX.shapeUp, SX.evFieldAddr, SX.evField, SX.evIndexAddr, SX.evIndex, SX.evFill, SX.evBuild, SX.szs, SX.cellsV, SX.evNew, SX.evStore, SX.spliceL, SX.SV.cells, SX.evConv, SX.evSlice, SX.bnd, SX.evNil, SX.evUn, SX.evPick, SX.pickOpd, SX.popTo, SX.cnd, SX.env0, SX.TD.isAgg, SX.TD.isIface, SX.tails, SX.NotAgg, SX.evLookup, SX.evConvH, SX.evPtrEq, SX.isCells, SX.thaw, SX.frz, SX.fixB, SX.rootIx, SX.Froz, SX.frzStep, SX.fork, Go.Value.cells, Go.undef, cfg14, hlt, hkl, intR, hy, hyx]
    refine ⟨by (unfold SX.Ob; first | trivial | omega | ((try simp only [SX.inK]); (try simp [SX.den, SX.IsU8, SX.AllP, *]); (try omega))), ?_⟩
    intro a3 w3 hr3 _
    have hki : k ≠ i0 := by
      rintro rfl
      rw [nth_lt hi0, hxi] at hy
      exact hyx hy.symm
    exact post_rnd (i0 + 1 - (k + 1)) (by omega) ⟨k + 1, rfl, by omega, hr3.re (by simp [envTo, SX.look]) hr3.all rfl rfl⟩
end Go.Proofs
