/- Live: Plan; sorted lists are unique. -/
import Derived.Test.YtnmjdelnllchdaaDJ
namespace Go.Proofs
set_option linter.unusedVariables false
set_option linter.unusedSimpArgs false
open Go Go.SX Go.RowKit

theorem stab_uniq {key : Int → Int} : ∀ {A B : List Int}, A.length = B.length → (∀ c, A.filter (fun x => decide (key x = c)) = B.filter (fun x => decide (key x = c))) → A.Pairwise (fun x y => key x ≤ key y) → B.Pairwise (fun x y => key x ≤ key y) → A = B
  | [], B, hl, _, _, _ => (List.eq_nil_of_length_eq_zero hl.symm).symm
  | a :: A, [], hl, _, _, _ => by simp at hl
  | a :: A, b :: B, hl, hf, hA, hB => by
    have hA1 := List.pairwise_cons.1 hA
    have hB1 := List.pairwise_cons.1 hB
    have m1 : a ∈ b :: B := by
      have h : a ∈ (a :: A).filter (fun x => decide (key x = key a)) := List.mem_filter.2 ⟨List.mem_cons_self, by simp⟩
      rw [hf] at h
      exact (List.mem_filter.1 h).1
    have m2 : b ∈ a :: A := by
      have h : b ∈ (b :: B).filter (fun x => decide (key x = key b)) := List.mem_filter.2 ⟨List.mem_cons_self, by simp⟩
      rw [← hf] at h
      exact (List.mem_filter.1 h).1
    have k1 : key b ≤ key a := by
      rcases List.mem_cons.1 m1 with h | h
      · rw [h]; exact Int.le_refl _
      · exact hB1.1 a h
    have k2 : key a ≤ key b := by
      rcases List.mem_cons.1 m2 with h | h
      · rw [h]; exact Int.le_refl _
      · exact hA1.1 b h
    have hab : a = b := by
      have h := hf (key a)
      rw [List.filter_cons_of_pos (by simp), List.filter_cons_of_pos (by simp; omega)] at h
      exact (List.cons.inj h).1
    subst hab
    congr 1
    refine stab_uniq (by simpa using hl) (fun c => ?_) hA1.2 hB1.2
    have h := hf c
    by_cases hc : key a = c
    · rw [List.filter_cons_of_pos (by simp [hc]), List.filter_cons_of_pos (by simp [hc])] at h
      exact (List.cons.inj h).2
    · rw [List.filter_cons_of_neg (by simp [hc]), List.filter_cons_of_neg (by simp [hc])] at h
      exact h
theorem StabP.uniq {key : Int → Int} {L A B : List Int} (hA : StabP key L A) (hB : StabP key L B) : A = B :=
  stab_uniq (hA.1.trans hB.1.symm) (fun c => (hA.2.1 c).trans (hB.2.1 c).symm) hA.2.2 hB.2.2
theorem StabP.filter {key : Int → Int} {L A : List Int} (hA : StabP key L A) (p : Int → Bool) : StabP key (L.filter p) (A.filter p) := by
  have hf : ∀ c, (A.filter p).filter (fun x => decide (key x = c)) = (L.filter p).filter (fun x => decide (key x = c)) := fun c => by
    rw [List.filter_filter, List.filter_filter]
    have h := congrArg (List.filter p) (hA.2.1 c)
    rw [List.filter_filter, List.filter_filter] at h
    have e : ∀ M : List Int, M.filter (fun x => decide (key x = c) && p x) = M.filter (fun x => p x && decide (key x = c)) := fun M => by
      congr 1
      funext x
      exact Bool.and_comm _ _
    rw [e, e]
    exact h
  refine ⟨?_, hf, hA.2.2.sublist List.filter_sublist⟩
  have hp : (A.filter p).Perm (L.filter p) := by
    have : A.Perm L := by
      rw [List.perm_iff_count]
      intro x
      have h := congrArg (List.count x) (hA.2.1 (key x))
      rw [List.count_filter (by simp), List.count_filter (by simp)] at h
      exact h
    exact this.filter p
  exact hp.length_eq
theorem StabP.len_le {d : Dev} {L : List Ext} {K R : List Int} {key : Int → Int} (h : StabP key (vicL d L K) R) : R.length ≤ 64 := by
  rw [h.1]
  unfold vicL
  split
  · rename_i hh
    have := vicK_len d L K d.Z.length
    have := hh.1.1.2.1
    omega
  · simp
theorem vicL_filter (d : Dev) (L : List Ext) (K : List Int) : vicL d L K = (vicL d L []).filter fun x => decide (x ∉ K) := by
  unfold vicL
  split
  · unfold vicK
    rw [List.filter_map, List.filter_filter]
    congr 2
    funext i
    simp [vicP, Function.comp]
    by_cases h : (i : Int) ∈ K <;> simp [h]
  · rfl

/-- The first few. -/
def planN (n : Nat) (want : Int) : Nat := if (n : Int) < want then n else want.toNat
def PlanR (w : World) (d : Dev) (L : List Ext) (want : Int) (K : List Int) (e : Ending) (w' : World) : Prop := ∃ (v : Value) (R : List Int), e = .returned (den (.v v)) ∧ RdI (fun x => w.heap.size ≤ x) w' v (R.take (planN R.length want)) ∧ StabP (fun x => cntE L x.toNat) (vicL d L K) R ∧ Below w.heap.size w w'

set_option maxRecDepth 100000 in
set_option maxHeartbeats 16000000 in
/-- Plan. -/
theorem Plan_ok {P P' P'' : Nat → Prop} (w : World) (v vm v2 : Value) (d : Dev) (L : List Ext) (want : Int) (K : List Int) (hL : RdZ P w v d.Z) (hn : d.Z.length ≤ 1000000000000000) (hl : LenOK d.Z) (hM : RdE P' w vm L) (hm : L.length ≤ 1000) (hK : RdI P'' w v2 K) (hnK : K.length ≤ 1000000000000000) (hS : SortC d.Z.length) : Calls Try.prog 10 (denL [.ag (devC d v), .v vm, .v (.int .i64 want), .v v2]).toArray w (PlanR w d L want K) := by
  obtain ⟨ad, cp, rfl⟩ := hL.slice
  refine enter (F := frame0 w) Try.func10 rfl [.ag (devC d (.slice ad d.Z.length cp)), .v vm, .v (.int .i64 want), .v v2] [] (by simp [Try.f10]) trivial (keeps0 w) fun a hr => ?_
  refine seg cfg10_ok mixed PanicFree.body 1000 [] [] hr (by first | trivial | exact HpRep.nil | assumption) (by kernel_rfl) fun s_ hs_ => ?_
  simp (maxSteps := 10000000) [SX.vc, SX.stop, SX.contS, SX.contB, SX.contW, SX.contR, SX.contD, SX.sxStep, SX.stepPure, SX.stepNew, SX.stepStore, SX.stepKeep, SX.guardIx, SX.evOp, SX.opd, SX.opds, SX.optOpd, SX.look, SX.putS, SX.gobs, SX.AllP, SX.leave, SX.lookC, SX.lookB, SX.lookT, SX.lookN, SX.findK, SX.evBuiltin, SX.ints, SX.foldI, SX.evBin, SX.evInt, SX.evStr, SX.evEq, SX.arith, SX.evLoad, SX.shapeUp, SX.evFieldAddr, SX.evField, SX.evIndexAddr, SX.evIndex, SX.evFill, SX.evBuild, SX.szs, SX.cellsV, SX.evNew, SX.evStore, SX.spliceL, SX.SV.cells, SX.evConv, SX.evSlice, SX.bnd, SX.evNil, SX.evUn, SX.evPick, SX.pickOpd, SX.popTo, SX.cnd, SX.env0, SX.TD.isAgg, SX.TD.isIface, SX.tails, SX.NotAgg, SX.evLookup, SX.evConvH, SX.evPtrEq, SX.isCells, SX.thaw, SX.frz, SX.fixB, SX.rootIx, SX.Froz, SX.frzStep, SX.fork, Go.Value.cells, Go.undef, cfg10, Try.f10, devC]
  refine ⟨by (unfold SX.Ob; first | trivial | omega | ((try simp only [SX.inK]); (try simp [SX.den, SX.IsU8, SX.AllP, *]); (try omega))), ?_⟩
  intro a1 w1 hr1 _
  have z1 : w.heap.size ≤ w1.heap.size := hr1.keeps.size
  refine post_call 22 [.ag [.v (.int .i64 d.cap), .v (.int .i64 d.op), .v (.int .i64 d.ac), .v (.slice ad d.Z.length cp)], .v vm, .v v2] hr1 (by first | exact wanted_none rfl | exact wanted_zero (hr1.env.same rfl rfl rfl rfl) rfl (by simp) | exact wanted_zero (hr1.env.same rfl rfl rfl rfl) rfl (by simp [*])) rfl (callable 22 Try.func22) (victims_ok w1 _ vm v2 d L K (hL.below hr1.keeps.toBelow) hn hl (hM.below hr1.keeps.toBelow) hm (hK.below hr1.keeps.toBelow) hnK hS) ?_
  rintro e2 w2 ⟨vr, R, rfl, hR, hSt, hb2⟩
  refine ⟨_, rfl, ?_⟩
  have h2 := hr1.ret hb2 13 (.v vr) rfl _ (hr1.all.below hb2) (by simp) rfl
  have hRl := hSt.len_le
  obtain ⟨q, hq⟩ : ∃ q, (if want < 0 then 0 else want) = q := ⟨_, rfl⟩
  have hq0 : 0 ≤ q := by rw [← hq]; split <;> omega
  rcases Nat.eq_zero_or_pos R.length with h0 | h0
  · obtain rfl : R = [] := List.eq_nil_of_length_eq_zero h0
    obtain ⟨adr, cpr, rfl⟩ := hR.slice
    have hpl : ([] : List Int).take (planN ([] : List Int).length want) = [] := by simp
    have hmin : (if q < (0 : Int) then q else 0) = 0 := by split <;> omega
    rcases adr with _ | ad0
    · refine seg cfg10_ok mixed PanicFree.body 1000 [] [] h2 (by first | trivial | exact HpRep.nil | assumption) (by kernel_rfl) fun s_ hs_ => ?_
      simp (maxSteps := 10000000) [SX.vc, SX.stop, SX.contS, SX.contB, SX.contW, SX.contR, SX.contD, SX.sxStep, SX.stepPure, SX.stepNew, SX.stepStore, SX.stepKeep, SX.guardIx, SX.evOp, SX.opd, SX.opds, SX.optOpd, SX.look, SX.putS, SX.gobs, SX.AllP, SX.leave, SX.lookC, SX.lookB, SX.lookT, SX.lookN, SX.findK, SX.evBuiltin, SX.ints, SX.foldI, SX.evBin, SX.evInt, SX.evStr, SX.evEq, SX.arith, SX.evLoad, SX.shapeUp, SX.evFieldAddr, SX.evField, SX.evIndexAddr, SX.evIndex, SX.evFill, SX.evBuild, SX.szs, SX.cellsV, SX.evNew, SX.evStore, SX.spliceL, SX.SV.cells, SX.evConv, SX.evSlice, SX.bnd, SX.evNil, SX.evUn, SX.evPick, SX.pickOpd, SX.popTo, SX.cnd, SX.env0, SX.TD.isAgg, SX.TD.isIface, SX.tails, SX.NotAgg, SX.evLookup, SX.evConvH, SX.evPtrEq, SX.isCells, SX.thaw, SX.frz, SX.fixB, SX.rootIx, SX.Froz, SX.frzStep, SX.fork, Go.Value.cells, Go.undef, cfg10, hq, hmin]
      refine ⟨by (unfold SX.Ob; first | trivial | omega | ((try simp only [SX.inK]); (try simp [SX.den, SX.IsU8, SX.AllP, *]); (try omega))), ?_⟩
      intro a3 w3 hr3 _
      exact post_retn (end1 hr3 rfl rfl ⟨_, [], rfl, by rw [hpl]; exact .inl ⟨rfl, _, _, rfl⟩, hSt, hr3.keeps.toBelow⟩).1
    · refine seg cfg10_ok mixed PanicFree.body 1000 [] [] h2 (by first | trivial | exact HpRep.nil | assumption) (by kernel_rfl) fun s_ hs_ => ?_
      simp (maxSteps := 10000000) [SX.vc, SX.stop, SX.contS, SX.contB, SX.contW, SX.contR, SX.contD, SX.sxStep, SX.stepPure, SX.stepNew, SX.stepStore, SX.stepKeep, SX.guardIx, SX.evOp, SX.opd, SX.opds, SX.optOpd, SX.look, SX.putS, SX.gobs, SX.AllP, SX.leave, SX.lookC, SX.lookB, SX.lookT, SX.lookN, SX.findK, SX.evBuiltin, SX.ints, SX.foldI, SX.evBin, SX.evInt, SX.evStr, SX.evEq, SX.arith, SX.evLoad, SX.shapeUp, SX.evFieldAddr, SX.evField, SX.evIndexAddr, SX.evIndex, SX.evFill, SX.evBuild, SX.szs, SX.cellsV, SX.evNew, SX.evStore, SX.spliceL, SX.SV.cells, SX.evConv, SX.evSlice, SX.bnd, SX.evNil, SX.evUn, SX.evPick, SX.pickOpd, SX.popTo, SX.cnd, SX.env0, SX.TD.isAgg, SX.TD.isIface, SX.tails, SX.NotAgg, SX.evLookup, SX.evConvH, SX.evPtrEq, SX.isCells, SX.thaw, SX.frz, SX.fixB, SX.rootIx, SX.Froz, SX.frzStep, SX.fork, Go.Value.cells, Go.undef, cfg10, hq, hmin]
      refine ⟨by (unfold SX.Ob; first | trivial | omega | ((try simp only [SX.inK]); (try simp [SX.den, SX.IsU8, SX.AllP, *]); (try omega))), ?_⟩
      intro a3 w3 hr3 _
      exact post_retn (end1 hr3 rfl rfl ⟨_, [], rfl, by rw [hpl]; exact .inl ⟨rfl, _, _, rfl⟩, hSt, hr3.keeps.toBelow⟩).1
  · obtain ⟨br, o0, capr, u, fz, hP, rfl, hrep⟩ := hR.opn h0
    have hcr := hR.cap rfl
    obtain ⟨n, hn2⟩ : ∃ n, R.length = n := ⟨_, rfl⟩
    obtain ⟨k, hk, hkn⟩ : ∃ k : Nat, (if q < (n : Int) then q else (n : Int)) = (k : Int) ∧ k ≤ n := by
      refine ⟨(if q < (n : Int) then q else (n : Int)).toNat, ?_, ?_⟩
      · split <;> omega
      · split <;> omega
    have hpk : planN R.length want = k := by
      rw [hn2, planN]
      split <;> rename_i h1 <;> revert hk hq <;> split <;> split <;> omega
    have hcr' : n ≤ capr := by omega
    rw [hn2] at hrep hRl h0
    have h3 := (h2.top 13 (.sl 0 br o0 0 n capr 1) rfl (by simp [den, hn2])).see _ (HpAll.one hrep)
    refine seg cfg10_ok mixed PanicFree.body 1000 [] [] h3 (by first | trivial | exact HpRep.nil | assumption) (by kernel_rfl) fun s_ hs_ => ?_
    simp (maxSteps := 10000000) [SX.vc, SX.stop, SX.contS, SX.contB, SX.contW, SX.contR, SX.contD, SX.sxStep, SX.stepPure, SX.stepNew, SX.stepStore, SX.stepKeep, SX.guardIx, SX.evOp, SX.opd, SX.opds, SX.optOpd, SX.look, SX.putS, SX.gobs, SX.AllP, SX.leave, SX.lookC, SX.lookB, SX.lookT, SX.lookN, SX.findK, SX.evBuiltin, SX.ints, SX.foldI, SX.evBin, SX.evInt, SX.evStr, SX.evEq, SX.arith, SX.evLoad, SX.shapeUp, SX.evFieldAddr, SX.evField, SX.evIndexAddr, SX.evIndex, SX.evFill, SX.evBuild, SX.szs, SX.cellsV, SX.evNew, SX.evStore, SX.spliceL, SX.SV.cells, SX.evConv, SX.evSlice, SX.bnd, SX.evNil, SX.evUn, SX.evPick, SX.pickOpd, SX.popTo, SX.cnd, SX.env0, SX.TD.isAgg, SX.TD.isIface, SX.tails, SX.NotAgg, SX.evLookup, SX.evConvH, SX.evPtrEq, SX.isCells, SX.thaw, SX.frz, SX.fixB, SX.rootIx, SX.Froz, SX.frzStep, SX.fork, Go.Value.cells, Go.undef, cfg10, hq, hk]
    refine ⟨by (unfold SX.Ob; first | trivial | omega | ((try simp only [SX.inK]); (try simp [SX.den, SX.IsU8, SX.AllP, *]); (try omega))), ?_⟩
    intro a4 w4 hr4 _
    refine post_retn (end1 hr4 rfl rfl ⟨.slice (some ⟨br, o0, none⟩) k capr, R, by simp [den], ?_, hSt, hr4.keeps.toBelow⟩).1
    rw [hpk]
    have h5 : RdI (fun x => w.heap.size ≤ x) w4 (.slice (some ⟨br, o0 + 0 * 1, none⟩) k capr) ((R.drop 0).take k) := RdS.part (Nat.le_trans z1 hP) hn2.symm hr4.all.1.1 (by omega) (by omega)
    simpa using h5
end Go.Proofs
