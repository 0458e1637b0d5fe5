/- Live: how many blocks a map has in each zone; what is wasted, free, small. -/
import Derived.Test.YtnmjdelnllchdaaDE
namespace Go.Proofs
set_option linter.unusedVariables false
set_option linter.unusedSimpArgs false
set_option linter.unusedSectionVars false
open Go Go.SX Go.RowKit

theorem flatE (L : List Ext) : ∀ x ∈ L, May x → True := fun _ _ _ => trivial
/-- A map's blocks in a zone. -/
def cntE : List Ext → Nat → Int
  | [], _ => 0
  | e :: r, z => (if e.zone = (z : Int) then e.n else 0) + cntE r z
theorem cntE_append (L M : List Ext) (z : Nat) : cntE (L ++ M) z = cntE L z + cntE M z := by
  induction L with
  | nil => simp [cntE]
  | cons x r ih => simp only [List.cons_append, cntE, ih]; omega
theorem cntE_step {L : List Ext} {k : Nat} {x : Ext} (h : k < L.length) (hx : nth ext0 L k = x) (z : Nat) : cntE (L.take (k + 1)) z = cntE (L.take k) z + (if x.zone = (z : Int) then x.n else 0) := by
  rw [take_nth (d := ext0) h, hx, cntE_append]
  simp [cntE]
theorem cntE_bound {L : List Ext} (h : ∀ e ∈ L, May e) (z : Nat) : 0 ≤ cntE L z ∧ cntE L z ≤ 1099511627776 * (L.length : Int) := by
  induction L with
  | nil => simp [cntE]
  | cons x r ih =>
    obtain ⟨h1, h2⟩ := ih fun e he => h e (List.mem_cons_of_mem _ he)
    have hx := h x List.mem_cons_self
    unfold May at hx
    simp only [cntE, List.length_cons]
    split <;> omega
def cnts (L : List Ext) (z : Nat) : List Int := (List.range z).map fun j => cntE L j
theorem cnts_len (L : List Ext) (z : Nat) : (cnts L z).length = z := by simp [cnts]
theorem nth_cnts {L : List Ext} {z j : Nat} (h : j < z) : nth (0 : Int) (cnts L z) j = cntE L j := by
  rw [nth_lt (by simpa [cnts] using h)]
  simp [cnts]
def CntsR (w : World) (L : List Ext) (z : Nat) (e : Ending) (w' : World) : Prop := ∃ v, e = .returned (den (.v v)) ∧ RdI (fun x => w.heap.size ≤ x) w' v (cnts L z) ∧ Below w.heap.size w w'
def CntsLoop (w : World) (v : Value) (L : List Ext) (z b5 : Nat) (m : Nat) (a : Act) (w' : World) : Prop :=
  ∃ (k : Nat) (row : Nat → List SV), m = L.length - k ∧ k ≤ L.length ∧ (∀ j, j < z → row j = intC (cntE (L.take k) j)) ∧ RepX (frame0 w) ⟨[(12, 0, .v (.int .i64 k)), (11, 0, .v (.int .i64 L.length)), (10, 0, .v v), (1, 0, .v (.int .i64 z)), (5, 0, .sl 0 b5 0 0 z z 1)], [(b5, true, .arr 0 z row 1 3 (0, 0))], 0, 0, 36, [], [], []⟩ a w'

set_option maxRecDepth 100000 in
set_option maxHeartbeats 16000000 in
/-- counts. -/
theorem counts_ok {P : Nat → Prop} (w : World) (v : Value) (L : List Ext) (z : Nat) (hL : RdE P w v L) (hn : L.length ≤ 1000) (hM : ∀ e ∈ L, May e) (hz : z ≤ 64) : Calls Try.prog 28 (denL [.v v, .v (.int .i64 z)]).toArray w (CntsR w L z) := by
  obtain ⟨ad, cp, rfl⟩ := hL.slice
  refine enter (F := frame0 w) Try.func28 rfl [.v (.slice ad L.length cp), .v (.int .i64 z)] [] (by simp [Try.f28]) trivial (keeps0 w) fun a hr => ?_
  have hz8 : (z : Int) * 8 ≤ 16777216 := by omega
  have hz16 : (z : Int) ≤ 16777216 := by omega
  refine seg cfg28_ok mixed PanicFree.body 1000 [] [] hr (by first | trivial | exact HpRep.nil | assumption) (by kernel_rfl) fun b5 hb5 => ?_
  simp (maxSteps := 10000000) [SX.vc, SX.stop, SX.contS, SX.contB, SX.contW, SX.contR, SX.contD, SX.sxStep, SX.stepPure, SX.stepNew, SX.stepStore, SX.stepKeep, SX.guardIx, SX.evOp, SX.opd, SX.opds, SX.optOpd, SX.look, SX.putS, SX.gobs, SX.AllP, SX.leave, SX.lookC, SX.lookB, SX.lookT, SX.lookN, SX.findK, SX.evBuiltin, SX.ints, SX.foldI, SX.evBin, SX.evInt, SX.evStr, SX.evEq, SX.arith, SX.evLoad, SX.shapeUp, SX.evFieldAddr, SX.evField, SX.evIndexAddr, SX.evIndex, SX.evFill, SX.evBuild, SX.szs, SX.cellsV, SX.evNew, SX.evStore, SX.spliceL, SX.SV.cells, SX.evConv, SX.evSlice, SX.bnd, SX.evNil, SX.evUn, SX.evPick, SX.pickOpd, SX.popTo, SX.cnd, SX.env0, SX.TD.isAgg, SX.TD.isIface, SX.tails, SX.NotAgg, SX.evLookup, SX.evConvH, SX.evPtrEq, SX.isCells, SX.thaw, SX.frz, SX.fixB, SX.rootIx, SX.Froz, SX.frzStep, SX.fork, Go.Value.cells, Go.undef, cfg28, Try.f28, hz8, hz16]
  refine ⟨by (unfold SX.Ob; first | trivial | omega | ((try simp only [SX.inK]); (try simp [SX.den, SX.IsU8, SX.AllP, *]); (try omega))), ?_⟩
  intro a1 w1 hr1 _
  refine post_loop (CntsLoop w (.slice ad L.length cp) L z b5) L.length ⟨0, _, rfl, by omega, fun j hj => (by simp [cntE, intC]), hr1.re (by simp [envTo, SX.look]) hr1.all rfl rfl⟩ ?_
  rintro m a2 w2 ⟨k, row, rfl, hk, hrow, hr2⟩
  have hA2 := hr2.all.1
  by_cases hlt : k < L.length
  · obtain ⟨b, o0, cap, u, fz, hP, hv, hrep⟩ := hL.opn hlt
    cases hv
    have hrep2 := SO.rep_same hrep (hr2.keeps.toBelow.block _ (SO.rep_lt hrep))
    have hbw := SO.rep_lt hrep
    have hs1 : w.heap.size ≤ b5 := by
      rcases hA2.2.1 rfl with h | h
      · exact h
      · cases h
    obtain ⟨x, hx⟩ : ∃ x, nth ext0 L k = x := ⟨_, rfl⟩
    have hxm : May x := hM x (hx ▸ nth_mem hlt)
    have hst := fun j => cntE_step hlt hx j
    have h2 := (hr2.top 10 (.sl 1 b o0 0 L.length cp 5) rfl (by simp [den])).see [(b5, true, .arr 0 z row 1 3 (0, 0)), (b, false, .arr o0 L.length (fun j => extC (nth ext0 L j)) 5 u fz)] ⟨⟨hA2.1, hA2.2.1, by simp; omega⟩, HpAll.one hrep2⟩
    by_cases hz0 : 0 ≤ x.zone
    rotate_left
    · refine seg cfg28_ok mixed PanicFree.body 1000 [true, false] [(19, false)] h2 (by first | trivial | exact HpRep.nil | assumption) (by kernel_rfl) fun s_ hs_ => ?_
      simp (maxSteps := 10000000) [SX.vc, SX.stop, SX.contS, SX.contB, SX.contW, SX.contR, SX.contD, SX.sxStep, SX.stepPure, SX.stepNew, SX.stepStore, SX.stepKeep, SX.guardIx, SX.evOp, SX.opd, SX.opds, SX.optOpd, SX.look, SX.putS, SX.gobs, SX.AllP, SX.leave, SX.lookC, SX.lookB, SX.lookT, SX.lookN, SX.findK, SX.evBuiltin, SX.ints, SX.foldI, SX.evBin, SX.evInt, SX.evStr, SX.evEq, SX.arith, SX.evLoad, SX.shapeUp, SX.evFieldAddr, SX.evField, SX.evIndexAddr, SX.evIndex, SX.evFill, SX.evBuild, SX.szs, SX.cellsV, SX.evNew, SX.evStore, SX.spliceL, SX.SV.cells, SX.evConv, SX.evSlice, SX.bnd, SX.evNil, SX.evUn, SX.evPick, SX.pickOpd, SX.popTo, SX.cnd, SX.env0, SX.TD.isAgg, SX.TD.isIface, SX.tails, SX.NotAgg, SX.evLookup, SX.evConvH, SX.evPtrEq, SX.isCells, SX.thaw, SX.frz, SX.fixB, SX.rootIx, SX.Froz, SX.frzStep, SX.fork, Go.Value.cells, Go.undef, cfg28, extC, hx, hz0]
      refine ⟨by (unfold SX.Ob; first | trivial | omega | ((try simp only [SX.inK]); (try simp [SX.den, SX.IsU8, SX.AllP, *]); (try omega))), ?_⟩
      intro a3 w3 hr3 _
      exact post_rnd (L.length - (k + 1)) (by omega) ⟨k + 1, row, rfl, by omega, fun j hj => (by rw [hrow j hj, hst j, if_neg (by omega), Int.add_zero]), hr3.re (by simp [envTo, SX.look, den]) (hr3.all.take 1) rfl rfl⟩
    by_cases hzz : x.zone < (z : Int)
    rotate_left
    · refine seg cfg28_ok mixed PanicFree.body 1000 [true, false] [(19, true)] h2 (by first | trivial | exact HpRep.nil | assumption) (by kernel_rfl) fun s_ hs_ => ?_
      simp (maxSteps := 10000000) [SX.vc, SX.stop, SX.contS, SX.contB, SX.contW, SX.contR, SX.contD, SX.sxStep, SX.stepPure, SX.stepNew, SX.stepStore, SX.stepKeep, SX.guardIx, SX.evOp, SX.opd, SX.opds, SX.optOpd, SX.look, SX.putS, SX.gobs, SX.AllP, SX.leave, SX.lookC, SX.lookB, SX.lookT, SX.lookN, SX.findK, SX.evBuiltin, SX.ints, SX.foldI, SX.evBin, SX.evInt, SX.evStr, SX.evEq, SX.arith, SX.evLoad, SX.shapeUp, SX.evFieldAddr, SX.evField, SX.evIndexAddr, SX.evIndex, SX.evFill, SX.evBuild, SX.szs, SX.cellsV, SX.evNew, SX.evStore, SX.spliceL, SX.SV.cells, SX.evConv, SX.evSlice, SX.bnd, SX.evNil, SX.evUn, SX.evPick, SX.pickOpd, SX.popTo, SX.cnd, SX.env0, SX.TD.isAgg, SX.TD.isIface, SX.tails, SX.NotAgg, SX.evLookup, SX.evConvH, SX.evPtrEq, SX.isCells, SX.thaw, SX.frz, SX.fixB, SX.rootIx, SX.Froz, SX.frzStep, SX.fork, Go.Value.cells, Go.undef, cfg28, extC, hx, hz0, hzz]
      refine ⟨by (unfold SX.Ob; first | trivial | omega | ((try simp only [SX.inK]); (try simp [SX.den, SX.IsU8, SX.AllP, *]); (try omega))), ?_⟩
      intro a3 w3 hr3 _
      exact post_rnd (L.length - (k + 1)) (by omega) ⟨k + 1, row, rfl, by omega, fun j hj => (by rw [hrow j hj, hst j, if_neg (by omega), Int.add_zero]), hr3.re (by simp [envTo, SX.look, den]) (hr3.all.take 1) rfl rfl⟩
    obtain ⟨q, hq⟩ : ∃ q : Nat, x.zone = (q : Int) := ⟨x.zone.toNat, by omega⟩
    have hqz : q < z := by omega
    have hb := cntE_bound (L := L.take k) (fun e he => hM e (List.mem_of_mem_take he)) q
    have hl1 : ((L.take k).length : Int) ≤ 1000 := by simp; omega
    obtain ⟨c, hcq⟩ : ∃ c, cntE (L.take k) q = c := ⟨_, rfl⟩
    have hrq : row q = [.v (.int .i64 c)] := by rw [hrow q hqz, hcq]; rfl
    rw [hcq] at hb
    have hxn : 1 ≤ x.n ∧ x.n ≤ 1099511627776 := ⟨hxm.2.1, hxm.2.2.1⟩
    refine seg cfg28_ok mixed PanicFree.body 1000 [true, true] [(19, true)] h2 (by first | trivial | exact HpRep.nil | assumption) (by kernel_rfl) fun s_ hs_ => ?_
    simp (maxSteps := 10000000) [SX.vc, SX.stop, SX.contS, SX.contB, SX.contW, SX.contR, SX.contD, SX.sxStep, SX.stepPure, SX.stepNew, SX.stepStore, SX.stepKeep, SX.guardIx, SX.evOp, SX.opd, SX.opds, SX.optOpd, SX.look, SX.putS, SX.gobs, SX.AllP, SX.leave, SX.lookC, SX.lookB, SX.lookT, SX.lookN, SX.findK, SX.evBuiltin, SX.ints, SX.foldI, SX.evBin, SX.evInt, SX.evStr, SX.evEq, SX.arith, SX.evLoad, SX.shapeUp, SX.evFieldAddr, SX.evField, SX.evIndexAddr, SX.evIndex, SX.evFill, SX.evBuild, SX.szs, SX.cellsV, SX.evNew, SX.evStore, SX.spliceL, SX.SV.cells, SX.evConv, SX.evSlice, SX.bnd, SX.evNil, SX.evUn, SX.evPick, SX.pickOpd, SX.popTo, SX.cnd, SX.env0, SX.TD.isAgg, SX.TD.isIface, SX.tails, SX.NotAgg, SX.evLookup, SX.evConvH, SX.evPtrEq, SX.isCells, SX.thaw, SX.frz, SX.fixB, SX.rootIx, SX.Froz, SX.frzStep, SX.fork, Go.Value.cells, Go.undef, cfg28, extC, hx, hq, hrq, hqz]
    refine ⟨by (unfold SX.Ob; first | trivial | omega | ((try simp only [SX.inK]); (try simp [SX.den, SX.IsU8, SX.AllP, *]); (try omega))), ?_⟩
    intro a3 w3 hr3 _
    exact post_rnd (L.length - (k + 1)) (by omega) ⟨k + 1, _, rfl, by omega, fun j hj => (by
      by_cases hjq : j = q
      · subst hjq
        rw [hst j, hcq, if_pos hq]
        simp [setRow, intC]
      · rw [hst j, if_neg (by omega), Int.add_zero, ← hrow j hj]
        unfold setRow
        rw [if_neg hjq]), hr3.re (by simp [envTo, SX.look, den]) (hr3.all.take 1) rfl rfl⟩
  · obtain rfl : k = L.length := by omega
    rw [List.take_length] at hrow
    refine seg cfg28_ok mixed PanicFree.body 1000 [false] [] hr2 (by first | trivial | exact HpRep.nil | assumption) (by kernel_rfl) fun s_ hs_ => ?_
    simp (maxSteps := 10000000) [SX.vc, SX.stop, SX.contS, SX.contB, SX.contW, SX.contR, SX.contD, SX.sxStep, SX.stepPure, SX.stepNew, SX.stepStore, SX.stepKeep, SX.guardIx, SX.evOp, SX.opd, SX.opds, SX.optOpd, SX.look, SX.putS, SX.gobs, SX.AllP, SX.leave, SX.lookC, SX.lookB, SX.lookT, SX.lookN, SX.findK, SX.evBuiltin, SX.ints, SX.foldI, SX.evBin, SX.evInt, SX.evStr, SX.evEq, SX.arith, SX.evLoad, SX.shapeUp, SX.evFieldAddr, SX.evField, SX.evIndexAddr, SX.evIndex, SX.evFill, SX.evBuild, SX.szs, SX.cellsV, SX.evNew, SX.evStore, SX.spliceL, SX.SV.cells, SX.evConv, SX.evSlice, SX.bnd, SX.evNil, SX.evUn, SX.evPick, SX.pickOpd, SX.popTo, SX.cnd, SX.env0, SX.TD.isAgg, SX.TD.isIface, SX.tails, SX.NotAgg, SX.evLookup, SX.evConvH, SX.evPtrEq, SX.isCells, SX.thaw, SX.frz, SX.fixB, SX.rootIx, SX.Froz, SX.frzStep, SX.fork, Go.Value.cells, Go.undef, cfg28]
    refine ⟨by (unfold SX.Ob; first | trivial | omega | ((try simp only [SX.inK]); (try simp [SX.den, SX.IsU8, SX.AllP, *]); (try omega))), ?_⟩
    intro a3 w3 hr3 _
    have hs1 : w.heap.size ≤ b5 := by
      rcases hr3.all.1.2.1 rfl with h | h
      · exact h
      · cases h
    refine post_retn (end1 hr3 rfl rfl ⟨.slice (some ⟨b5, 0, none⟩) z z, by simp [den], ?_, hr3.keeps.toBelow⟩).1
    rcases Nat.eq_zero_or_pos z with rfl | hz0
    · exact .inl ⟨rfl, _, _, rfl⟩
    · exact .inr ⟨by rw [cnts_len]; exact hz0, b5, 0, z, 3, (0, 0), hs1, by rw [cnts_len], rep_arr_sub hr3.all.1.1 (by rw [cnts_len]; omega) (fun j hj => by rw [cnts_len] at hj; rw [hrow j hj, nth_cnts hj]), by rw [cnts_len]; omega⟩
end Go.Proofs
