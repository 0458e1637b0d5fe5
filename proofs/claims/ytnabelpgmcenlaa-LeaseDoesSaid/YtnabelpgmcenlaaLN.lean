/- Leases: slices.Insert of one span. -/
import Derived.Test.YtnabelpgmcenlaaLC
namespace Go.Proofs
set_option linter.unusedVariables false
set_option linter.unusedSimpArgs false
open Go Go.SX Go.RowKit

/-- What Insert tells: a slice of one's own; what may have been written. -/
def InsR (Q : Nat → Prop) (w : World) (L' : List Lse) (e : Ending) (w' : World) : Prop := ∃ v' B, e = .returned v' ∧ OwL (fun x => Q x ∨ w.heap.size ≤ x) w' v' L' ∧ (∀ b ∈ B, Q b ∧ b < w.heap.size) ∧ KeepsTo w B w'

theorem nth_ins {L : List Lse} {i q : Nat} {x : Lse} (hi : i ≤ L.length) : nth lse0 (L.take i ++ x :: L.drop i) q = if q < i then nth lse0 L q else if q < i + 1 then x else nth lse0 L (q - 1) := by
  unfold nth
  simp only [List.getD_eq_getElem?_getD]
  by_cases h1 : q < i
  · rw [if_pos h1, List.getElem?_append_left (by simp; omega), List.getElem?_take, if_pos h1]
  · rw [if_neg h1, List.getElem?_append_right (by simp; omega)]
    have e : min i L.length = i := Nat.min_eq_left hi
    simp only [List.length_take, e]
    by_cases h2 : q < i + 1
    · rw [if_pos h2]
      obtain rfl : q = i := by omega
      simp
    · rw [if_neg h2]
      obtain ⟨p, rfl⟩ : ∃ p, q = i + 1 + p := ⟨q - (i + 1), by omega⟩
      rw [show i + 1 + p - i = p + 1 by omega, List.getElem?_cons_succ, List.getElem?_drop]
      congr 2
      omega

set_option maxRecDepth 100000 in
set_option maxHeartbeats 8000000 in
/-- Insert. -/
theorem insert_opn {Q : Nat → Prop} (w : World) (v : Value) (L : List Lse) (hO : ∃ (b N cap : Nat) (u : TypeId) (row : Nat → List SV), Q b ∧ v = .slice (some ⟨b, 0, none⟩) L.length cap ∧ 0 < cap ∧ L.length ≤ cap ∧ cap ≤ N ∧ (SO.arr 0 N row 4 u (0, 0)).rep w b ∧ ∀ j, j < L.length → row j = lseC (nth lse0 L j)) (i : Nat) (hi : i ≤ L.length) (hn : L.length ≤ 1000000) (s us : Nat) (x : Lse) (hs : (SO.arr 0 1 (fun _ => lseC x) 4 us (0, 0)).rep w s) (hsQ : ¬ Q s) :
    Calls Try.prog 41 (denL [.v v, .v (.int .i64 i), .sl 1 s 0 0 1 1 4]).toArray w (InsR Q w (L.take i ++ x :: L.drop i)) := by
  obtain ⟨b, N, cap, u, row, hQ, rfl, hc0, hc1, hc2, hrep, hrow⟩ := hO
  have hbs : b ≠ s := fun h => hsQ (h ▸ hQ)
  have hbw := SO.rep_lt hrep
  have hE : HpAll ⟨w, w.heap.size, [b]⟩ w [(b, true, .arr 0 N row 4 u (0, 0)), (s, false, .arr 0 1 (fun _ => lseC x) 4 us (0, 0))] := ⟨⟨hrep, fun _ => .inr (by simp), fun e he => by simp at he; subst he; exact hbs⟩, HpAll.one hs⟩
  refine enter (F := ⟨w, w.heap.size, [b]⟩) Try.func41 rfl [.sl 0 b 0 0 L.length cap 4, .v (.int .i64 i), .sl 1 s 0 0 1 1 4] _ (by simp [Try.f41, denL, den]) hE (KeepsTo.refl w _) fun a hr => ?_
  have hMB : ∀ z ∈ [b], Q z ∧ z < w.heap.size := by simpa using ⟨hQ, hbw⟩
  by_cases hil : i = L.length
  · have hil' : (i : Int) = (L.length : Int) := by omega
    refine seg cfg41_ok mixed PanicFree.body 1000 [false, true] [] hr (by first | trivial | exact HpRep.nil | assumption) (by kernel_rfl) fun s_ hs_ => ?_
    simp (maxSteps := 10000000) [SX.vc, SX.stop, SX.contS, SX.contB, SX.contW, SX.contR, SX.contD, SX.sxStep, SX.stepPure, SX.stepNew, SX.stepStore, SX.stepKeep, SX.guardIx, SX.evOp, SX.opd, SX.opds, SX.optOpd, SX.look, SX.putS, SX.gobs, SX.AllP, SX.leave, SX.lookC, SX.lookB, SX.lookT, SX.lookN, SX.findK, SX.evBuiltin, SX.ints, SX.foldI, SX.evBin, SX.evInt, SX.evStr, SX.evEq, SX.arith, SX.evLoad, SX.shapeUp, SX.evFieldAddr, SX.evField, SX.evIndexAddr, SX.evIndex, SX.evFill, SX.evBuild, SX.szs, SX.cellsV, SX.evNew, SX.evStore, SX.spliceL, SX.SV.cells, SX.evConv, SX.evSlice, SX.bnd, SX.evNil, SX.evUn, SX.evPick, SX.pickOpd, SX.popTo, SX.cnd, SX.env0, SX.TD.isAgg, SX.TD.isIface, SX.tails, SX.NotAgg, SX.evLookup, SX.evConvH, SX.evPtrEq, SX.isCells, SX.thaw, SX.frz, SX.fixB, SX.rootIx, SX.Froz, SX.frzStep, SX.fork, Go.Value.cells, Go.undef, cfg41, Try.f41, hil']
    refine ⟨by (unfold SX.Ob; first | trivial | omega | ((try simp only [SX.inK]); (try simp [SX.den, SX.IsU8, SX.AllP, *]); (try omega))), ?_⟩
    intro a1 w1 hr1 _
    have z1 : w.heap.size ≤ w1.heap.size := hr1.keeps.size
    have hO1 : OwL (fun z => z = b ∨ w.heap.size ≤ z) w1 (.slice (some ⟨b, 0, none⟩) L.length cap) L := .inr ⟨b, N, cap, u, row, .inl rfl, rfl, hc0, hc1, hc2, hr1.all.1.1, hrow⟩
    refine post_app (C := cfg41) cfg41_ok hr1 (by first | exact wanted_none rfl | exact wanted_zero (hr1.env.same rfl rfl rfl rfl) rfl (by simp)) rfl (by simp) rfl rfl rfl rfl rfl rfl rfl rfl rfl (by decide) (flatL _) (by (try simp only [List.length_append, List.length_cons, List.length_nil, List.length_map, List.length_take]); omega) (fun x hx => .inr (Nat.le_trans z1 hx)) hO1 (RdS.lit (x := x) hr1.all.2.1.1 rfl) [] (fun _ _ _ _ => trivial) (fun x hx => hx.elim (fun h => .inr (by simp [h])) .inl) fun V2 a2 w2 B2 hO2 hB2 hk2 hr2 => ?_
    refine seg cfg41_ok mixed PanicFree.body 1000 [] [] hr2.rebase (by first | trivial | exact HpRep.nil | assumption) (by kernel_rfl) fun s_ hs_ => ?_
    simp (maxSteps := 10000000) [SX.vc, SX.stop, SX.contS, SX.contB, SX.contW, SX.contR, SX.contD, SX.sxStep, SX.stepPure, SX.stepNew, SX.stepStore, SX.stepKeep, SX.guardIx, SX.evOp, SX.opd, SX.opds, SX.optOpd, SX.look, SX.putS, SX.gobs, SX.AllP, SX.leave, SX.lookC, SX.lookB, SX.lookT, SX.lookN, SX.findK, SX.evBuiltin, SX.ints, SX.foldI, SX.evBin, SX.evInt, SX.evStr, SX.evEq, SX.arith, SX.evLoad, SX.shapeUp, SX.evFieldAddr, SX.evField, SX.evIndexAddr, SX.evIndex, SX.evFill, SX.evBuild, SX.szs, SX.cellsV, SX.evNew, SX.evStore, SX.spliceL, SX.SV.cells, SX.evConv, SX.evSlice, SX.bnd, SX.evNil, SX.evUn, SX.evPick, SX.pickOpd, SX.popTo, SX.cnd, SX.env0, SX.TD.isAgg, SX.TD.isIface, SX.tails, SX.NotAgg, SX.evLookup, SX.evConvH, SX.evPtrEq, SX.isCells, SX.thaw, SX.frz, SX.fixB, SX.rootIx, SX.Froz, SX.frzStep, SX.fork, Go.Value.cells, Go.undef, cfg41]
    refine ⟨by (unfold SX.Ob; first | trivial | omega | ((try simp only [SX.inK]); (try simp [SX.den, SX.IsU8, SX.AllP, *]); (try omega))), ?_⟩
    intro a3 w3 hr3' _
    have hr3 := hr2.unbase hr3'
    refine post_retn (end1 hr3 rfl rfl ⟨_, [b], rfl, ?_, hMB, hr3.keeps⟩).1
    have hO3 := (hO2.keep hr3'.keeps (by simp [frameAt, mutB])).mono (P' := fun z => Q z ∨ w.heap.size ≤ z) fun z _ h => h.elim (fun h => .inl (h ▸ hQ)) .inr
    rw [hil, List.take_length, List.drop_length]
    exact hO3
  have hil' : ¬ (i : Int) = (L.length : Int) := by omega
  have hci : ¬ cap = i := by omega
  by_cases hcap : cap < L.length + 1
  · have hcap' : (cap : Int) < (L.length : Int) + 1 := by omega
    obtain ⟨q, hq⟩ : ∃ q, L.length + 1 - i = q := ⟨_, rfl⟩
    have hq' : (L.length : Int) + 1 - (i : Int) = (q : Int) := by omega
    refine seg cfg41_ok mixed PanicFree.body 1000 [false, false, true] [] hr (by first | trivial | exact HpRep.nil | assumption) (by kernel_rfl) fun s_ hs_ => ?_
    simp (maxSteps := 10000000) [SX.vc, SX.stop, SX.contS, SX.contB, SX.contW, SX.contR, SX.contD, SX.sxStep, SX.stepPure, SX.stepNew, SX.stepStore, SX.stepKeep, SX.guardIx, SX.evOp, SX.opd, SX.opds, SX.optOpd, SX.look, SX.putS, SX.gobs, SX.AllP, SX.leave, SX.lookC, SX.lookB, SX.lookT, SX.lookN, SX.findK, SX.evBuiltin, SX.ints, SX.foldI, SX.evBin, SX.evInt, SX.evStr, SX.evEq, SX.arith, SX.evLoad, SX.shapeUp, SX.evFieldAddr, SX.evField, SX.evIndexAddr, SX.evIndex, SX.evFill, SX.evBuild, SX.szs, SX.cellsV, SX.evNew, SX.evStore, SX.spliceL, SX.SV.cells, SX.evConv, SX.evSlice, SX.bnd, SX.evNil, SX.evUn, SX.evPick, SX.pickOpd, SX.popTo, SX.cnd, SX.env0, SX.TD.isAgg, SX.TD.isIface, SX.tails, SX.NotAgg, SX.evLookup, SX.evConvH, SX.evPtrEq, SX.isCells, SX.thaw, SX.frz, SX.fixB, SX.rootIx, SX.Froz, SX.frzStep, SX.fork, Go.Value.cells, Go.undef, cfg41, Try.f41, hil', hcap', hq', hci]
    refine ⟨by (unfold SX.Ob; first | trivial | omega | ((try simp only [SX.inK]); (try simp [SX.den, SX.IsU8, SX.AllP, *]); (try omega))), ?_⟩
    intro a1 w1 hr1 _
    have hRd : RdL (fun _ => True) w1 (.slice (some ⟨b, 0, none⟩) i cap) (L.take i) := by
      have h := RdS.part (enc := lseC) (sz := 4) (d := lse0) (L := L) (P := fun _ => True) (base := 0) (len := i) (cap := cap) (n := L.length) trivial rfl (rep_arr_sub (row' := fun j => lseC (nth lse0 L j)) hr1.all.1.1 (by omega) (fun j hj => by rw [hrow j hj])) (by omega) (by omega)
      simpa using h
    refine post_appMakeN (C := cfg41) (enc := lseC) (d := lse0) (n := q) (L := L.take i) (Pb := fun _ => True) cfg41_ok hr1 (wanted_none rfl) rfl (by simp) rfl rfl rfl rfl rfl rfl rfl rfl rfl (by decide) rfl (by decide) (flatL [lse0] _ (by simp)) (by omega) (by simp only [List.length_take]; show (2 * (min i L.length + q) + 192) * 32 ≤ _; omega) (by omega) hRd (by simp only [List.length_take, den]; rw [Nat.min_eq_left hi]) (by simp only [List.length_take]; omega) ?_
    intro V2 a2 w2 hO2 hk2 hr2
    have hlen : (L.take i ++ List.replicate q lse0).length = L.length + 1 := by simp; omega
    obtain ⟨b2, N2, cap2, u2, row2, hP2, rfl, hd0, hd1, hd2, hrep2, hrow2⟩ := hO2.opn (show 0 < (L.take i ++ List.replicate q lse0).length by omega)
    rw [hlen] at hd1 hr2
    have z1 : w.heap.size ≤ w1.heap.size := hr1.keeps.size
    have hsw := SO.rep_lt hs
    have h3 := (hr2.top 40 (.sl 2 b2 0 0 (L.length + 1) cap2 4) rfl (by simp [den])).see [(b, true, .arr 0 N row 4 u (0, 0)), (s, false, .arr 0 1 (fun _ => lseC x) 4 us (0, 0)), (b2, true, .arr 0 N2 row2 4 u2 (0, 0))] ⟨⟨hr2.all.1.1, fun _ => .inr (by simp), by simp; omega⟩, ⟨hr2.all.2.1.1, by simp, by simp; omega⟩, ⟨hrep2, fun _ => .inl (Nat.le_trans z1 hP2), by simp⟩, trivial⟩
    have hci2 : ¬ cap2 = i := by omega
    have hci3 : ¬ cap2 = i + 1 := by omega
    refine seg cfg41_ok mixed PanicFree.body 1000 [] [] h3 (by first | trivial | exact HpRep.nil | assumption) (by kernel_rfl) fun s_ hs_ => ?_
    simp (maxSteps := 10000000) [SX.vc, SX.stop, SX.contS, SX.contB, SX.contW, SX.contR, SX.contD, SX.sxStep, SX.stepPure, SX.stepNew, SX.stepStore, SX.stepKeep, SX.guardIx, SX.evOp, SX.opd, SX.opds, SX.optOpd, SX.look, SX.putS, SX.gobs, SX.AllP, SX.leave, SX.lookC, SX.lookB, SX.lookT, SX.lookN, SX.findK, SX.evBuiltin, SX.ints, SX.foldI, SX.evBin, SX.evInt, SX.evStr, SX.evEq, SX.arith, SX.evLoad, SX.shapeUp, SX.evFieldAddr, SX.evField, SX.evIndexAddr, SX.evIndex, SX.evFill, SX.evBuild, SX.szs, SX.cellsV, SX.evNew, SX.evStore, SX.spliceL, SX.SV.cells, SX.evConv, SX.evSlice, SX.bnd, SX.evNil, SX.evUn, SX.evPick, SX.pickOpd, SX.popTo, SX.cnd, SX.env0, SX.TD.isAgg, SX.TD.isIface, SX.tails, SX.NotAgg, SX.evLookup, SX.evConvH, SX.evPtrEq, SX.isCells, SX.thaw, SX.frz, SX.fixB, SX.rootIx, SX.Froz, SX.frzStep, SX.fork, Go.Value.cells, Go.undef, cfg41, hci2]
    refine ⟨by (unfold SX.Ob; first | trivial | omega | ((try simp only [SX.inK]); (try simp [SX.den, SX.IsU8, SX.AllP, *]); (try omega))), ?_⟩
    intro a4 w4 hr4 _
    refine post_copy (C := cfg41) cfg41_ok hr4 rfl rfl (by simp) rfl rfl rfl rfl rfl rfl rfl rfl rfl (by omega) (by omega) (fun _ _ => flatL [x] x (by simp)) fun a5 w5 hr5 => ?_
    refine seg cfg41_ok mixed PanicFree.body 1000 [] [] hr5 (by first | trivial | exact HpRep.nil | assumption) (by kernel_rfl) fun s_ hs_ => ?_
    simp (maxSteps := 10000000) [SX.vc, SX.stop, SX.contS, SX.contB, SX.contW, SX.contR, SX.contD, SX.sxStep, SX.stepPure, SX.stepNew, SX.stepStore, SX.stepKeep, SX.guardIx, SX.evOp, SX.opd, SX.opds, SX.optOpd, SX.look, SX.putS, SX.gobs, SX.AllP, SX.leave, SX.lookC, SX.lookB, SX.lookT, SX.lookN, SX.findK, SX.evBuiltin, SX.ints, SX.foldI, SX.evBin, SX.evInt, SX.evStr, SX.evEq, SX.arith, SX.evLoad, SX.shapeUp, SX.evFieldAddr, SX.evField, SX.evIndexAddr, SX.evIndex, SX.evFill, SX.evBuild, SX.szs, SX.cellsV, SX.evNew, SX.evStore, SX.spliceL, SX.SV.cells, SX.evConv, SX.evSlice, SX.bnd, SX.evNil, SX.evUn, SX.evPick, SX.pickOpd, SX.popTo, SX.cnd, SX.env0, SX.TD.isAgg, SX.TD.isIface, SX.tails, SX.NotAgg, SX.evLookup, SX.evConvH, SX.evPtrEq, SX.isCells, SX.thaw, SX.frz, SX.fixB, SX.rootIx, SX.Froz, SX.frzStep, SX.fork, Go.Value.cells, Go.undef, cfg41, hci, hci3]
    refine ⟨by (unfold SX.Ob; first | trivial | omega | ((try simp only [SX.inK]); (try simp [SX.den, SX.IsU8, SX.AllP, *]); (try omega))), ?_⟩
    intro a6 w6 hr6 _
    have hfr : ∀ q, q < min (L.length - i) (L.length - i) → ∀ z ∈ row (i + q), NotAgg (den z) := fun q hq => by
      rw [hrow _ (by omega)]
      exact flatL [nth lse0 L (i + q)] _ (by simp)
    have hfz : frz (thaw [(b, true, SO.arr 0 N row 4 u (0, 0)), (s, false, SO.arr 0 1 (fun _ => lseC x) 4 us (0, 0)), (b2, true, SO.arr 0 N2 (copyRow row2 (fun _ => lseC x) i 0 (min 1 (L.length + 1 - i))) 4 u2 (0, 0))]) = [] := frz_thaw _
    refine post_copyD (C := cfg41) cfg41_ok hr6 rfl hfz rfl rfl (by simp) rfl rfl rfl rfl rfl rfl rfl rfl rfl (by omega) (by omega) hfr fun a7 w7 hr7 => ?_
    refine seg cfg41_ok mixed PanicFree.body 1000 [] [] hr7 (by first | trivial | exact HpRep.nil | assumption) (by kernel_rfl) fun s_ hs_ => ?_
    simp (maxSteps := 10000000) [SX.vc, SX.stop, SX.contS, SX.contB, SX.contW, SX.contR, SX.contD, SX.sxStep, SX.stepPure, SX.stepNew, SX.stepStore, SX.stepKeep, SX.guardIx, SX.evOp, SX.opd, SX.opds, SX.optOpd, SX.look, SX.putS, SX.gobs, SX.AllP, SX.leave, SX.lookC, SX.lookB, SX.lookT, SX.lookN, SX.findK, SX.evBuiltin, SX.ints, SX.foldI, SX.evBin, SX.evInt, SX.evStr, SX.evEq, SX.arith, SX.evLoad, SX.shapeUp, SX.evFieldAddr, SX.evField, SX.evIndexAddr, SX.evIndex, SX.evFill, SX.evBuild, SX.szs, SX.cellsV, SX.evNew, SX.evStore, SX.spliceL, SX.SV.cells, SX.evConv, SX.evSlice, SX.bnd, SX.evNil, SX.evUn, SX.evPick, SX.pickOpd, SX.popTo, SX.cnd, SX.env0, SX.TD.isAgg, SX.TD.isIface, SX.tails, SX.NotAgg, SX.evLookup, SX.evConvH, SX.evPtrEq, SX.isCells, SX.thaw, SX.frz, SX.fixB, SX.rootIx, SX.Froz, SX.frzStep, SX.fork, Go.Value.cells, Go.undef, cfg41]
    refine ⟨by (unfold SX.Ob; first | trivial | omega | ((try simp only [SX.inK]); (try simp [SX.den, SX.IsU8, SX.AllP, *]); (try omega))), ?_⟩
    intro a8 w8 hr8 _
    have hA8 := hr8.all.2.2.1
    refine post_retn (end1 hr8 rfl rfl ⟨_, [b], rfl, ?_, hMB, hr8.keeps⟩).1
    refine .inr ⟨b2, N2, cap2, u2, _, .inr (Nat.le_trans z1 hP2), by simp [den]; omega, hd0, by simp; omega, hd2, hA8.1, fun j hj => ?_⟩
    have hj' : j < L.length + 1 := by simp at hj; omega
    rw [nth_ins hi]
    unfold copyRow
    by_cases h1 : j < i
    · rw [if_pos (by omega), if_pos h1, if_pos h1, hrow2 j (by rw [hlen]; omega), nth_append_left (by simp; omega)]
      congr 1
      have := nth_part (d := lse0) (L := L) (i := 0) (n := i) h1
      simpa using this
    · simp only [if_neg h1]
      by_cases h2 : j < i + 1
      · simp only [if_pos h2]
        rw [if_pos (by omega)]
      · simp only [if_neg h2]
        rw [if_pos (by omega), hrow _ (by omega), show i + (j - (i + 1)) = j - 1 by omega]
  · have hcap' : ¬ (cap : Int) < (L.length : Int) + 1 := by omega
    refine seg cfg41_ok mixed PanicFree.body 1000 [false, false, false] [] hr (by first | trivial | exact HpRep.nil | assumption) (by kernel_rfl) fun s_ hs_ => ?_
    simp (maxSteps := 10000000) [SX.vc, SX.stop, SX.contS, SX.contB, SX.contW, SX.contR, SX.contD, SX.sxStep, SX.stepPure, SX.stepNew, SX.stepStore, SX.stepKeep, SX.guardIx, SX.evOp, SX.opd, SX.opds, SX.optOpd, SX.look, SX.putS, SX.gobs, SX.AllP, SX.leave, SX.lookC, SX.lookB, SX.lookT, SX.lookN, SX.findK, SX.evBuiltin, SX.ints, SX.foldI, SX.evBin, SX.evInt, SX.evStr, SX.evEq, SX.arith, SX.evLoad, SX.shapeUp, SX.evFieldAddr, SX.evField, SX.evIndexAddr, SX.evIndex, SX.evFill, SX.evBuild, SX.szs, SX.cellsV, SX.evNew, SX.evStore, SX.spliceL, SX.SV.cells, SX.evConv, SX.evSlice, SX.bnd, SX.evNil, SX.evUn, SX.evPick, SX.pickOpd, SX.popTo, SX.cnd, SX.env0, SX.TD.isAgg, SX.TD.isIface, SX.tails, SX.NotAgg, SX.evLookup, SX.evConvH, SX.evPtrEq, SX.isCells, SX.thaw, SX.frz, SX.fixB, SX.rootIx, SX.Froz, SX.frzStep, SX.fork, Go.Value.cells, Go.undef, cfg41, Try.f41, hil', hcap', hci]
    refine ⟨by (unfold SX.Ob; first | trivial | omega | ((try simp only [SX.inK]); (try simp [SX.den, SX.IsU8, SX.AllP, *]); (try omega))), ?_⟩
    intro a1 w1 hr1 _
    refine post_step rfl (exec_overlaps (C := cfg41) (fn := Try.f55) (hr1.env.same rfl rfl rfl rfl) hr1.hp (m1 := 0) rfl Try.func55 (by kernel_rfl) (by kernel_rfl) (by kernel_rfl) (tS := 22) (tR := 4) (e := 33) (by kernel_rfl) cfg41_ok rfl rfl rfl rfl rfl (fun h => hbs h.symm) (by omega) (by omega)) ?_
    have hr2 := hr1.retK (KeepsTo.refl w1 []) (by simp) 67 (.v (.bool false)) rfl _ hr1.all (by simp) rfl
    have hci3 : ¬ cap = i + 1 := by omega
    refine seg cfg41_ok mixed PanicFree.body 1000 [true] [] hr2 (by first | trivial | exact HpRep.nil | assumption) (by kernel_rfl) fun s_ hs_ => ?_
    simp (maxSteps := 10000000) [SX.vc, SX.stop, SX.contS, SX.contB, SX.contW, SX.contR, SX.contD, SX.sxStep, SX.stepPure, SX.stepNew, SX.stepStore, SX.stepKeep, SX.guardIx, SX.evOp, SX.opd, SX.opds, SX.optOpd, SX.look, SX.putS, SX.gobs, SX.AllP, SX.leave, SX.lookC, SX.lookB, SX.lookT, SX.lookN, SX.findK, SX.evBuiltin, SX.ints, SX.foldI, SX.evBin, SX.evInt, SX.evStr, SX.evEq, SX.arith, SX.evLoad, SX.shapeUp, SX.evFieldAddr, SX.evField, SX.evIndexAddr, SX.evIndex, SX.evFill, SX.evBuild, SX.szs, SX.cellsV, SX.evNew, SX.evStore, SX.spliceL, SX.SV.cells, SX.evConv, SX.evSlice, SX.bnd, SX.evNil, SX.evUn, SX.evPick, SX.pickOpd, SX.popTo, SX.cnd, SX.env0, SX.TD.isAgg, SX.TD.isIface, SX.tails, SX.NotAgg, SX.evLookup, SX.evConvH, SX.evPtrEq, SX.isCells, SX.thaw, SX.frz, SX.fixB, SX.rootIx, SX.Froz, SX.frzStep, SX.fork, Go.Value.cells, Go.undef, cfg41, hci, hci3]
    refine ⟨by (unfold SX.Ob; first | trivial | omega | ((try simp only [SX.inK]); (try simp [SX.den, SX.IsU8, SX.AllP, *]); (try omega))), ?_⟩
    intro a6 w6 hr6 _
    have hfr : ∀ q, q < min (L.length + 1 - i) (L.length - i) → ∀ z ∈ row (i + q), NotAgg (den z) := fun q hq => by
      rw [hrow _ (by omega)]
      exact flatL [nth lse0 L (i + q)] _ (by simp)
    have hfz : frz (thaw [(b, true, SO.arr 0 N row 4 u (0, 0)), (s, false, SO.arr 0 1 (fun _ => lseC x) 4 us (0, 0))]) = [] := frz_thaw _
    refine post_copyD (C := cfg41) cfg41_ok hr6 rfl hfz rfl rfl (by simp) rfl rfl rfl rfl rfl rfl rfl rfl rfl (by omega) (by omega) hfr fun a7 w7 hr7 => ?_
    refine seg cfg41_ok mixed PanicFree.body 1000 [] [] hr7 (by first | trivial | exact HpRep.nil | assumption) (by kernel_rfl) fun s_ hs_ => ?_
    simp (maxSteps := 10000000) [SX.vc, SX.stop, SX.contS, SX.contB, SX.contW, SX.contR, SX.contD, SX.sxStep, SX.stepPure, SX.stepNew, SX.stepStore, SX.stepKeep, SX.guardIx, SX.evOp, SX.opd, SX.opds, SX.optOpd, SX.look, SX.putS, SX.gobs, SX.AllP, SX.leave, SX.lookC, SX.lookB, SX.lookT, SX.lookN, SX.findK, SX.evBuiltin, SX.ints, SX.foldI, SX.evBin, SX.evInt, SX.evStr, SX.evEq, SX.arith, SX.evLoad, SX.shapeUp, SX.evFieldAddr, SX.evField, SX.evIndexAddr, SX.evIndex, SX.evFill, SX.evBuild, SX.szs, SX.cellsV, SX.evNew, SX.evStore, SX.spliceL, SX.SV.cells, SX.evConv, SX.evSlice, SX.bnd, SX.evNil, SX.evUn, SX.evPick, SX.pickOpd, SX.popTo, SX.cnd, SX.env0, SX.TD.isAgg, SX.TD.isIface, SX.tails, SX.NotAgg, SX.evLookup, SX.evConvH, SX.evPtrEq, SX.isCells, SX.thaw, SX.frz, SX.fixB, SX.rootIx, SX.Froz, SX.frzStep, SX.fork, Go.Value.cells, Go.undef, cfg41, hci]
    refine ⟨by (unfold SX.Ob; first | trivial | omega | ((try simp only [SX.inK]); (try simp [SX.den, SX.IsU8, SX.AllP, *]); (try omega))), ?_⟩
    intro a8 w8 hr8 _
    refine post_copy (C := cfg41) cfg41_ok hr8 rfl rfl (by simp) rfl rfl rfl rfl rfl rfl rfl rfl rfl (by omega) (by omega) (fun _ _ => flatL [x] x (by simp)) fun a9 w9 hr9 => ?_
    refine seg cfg41_ok mixed PanicFree.body 1000 [] [] hr9 (by first | trivial | exact HpRep.nil | assumption) (by kernel_rfl) fun s_ hs_ => ?_
    simp (maxSteps := 10000000) [SX.vc, SX.stop, SX.contS, SX.contB, SX.contW, SX.contR, SX.contD, SX.sxStep, SX.stepPure, SX.stepNew, SX.stepStore, SX.stepKeep, SX.guardIx, SX.evOp, SX.opd, SX.opds, SX.optOpd, SX.look, SX.putS, SX.gobs, SX.AllP, SX.leave, SX.lookC, SX.lookB, SX.lookT, SX.lookN, SX.findK, SX.evBuiltin, SX.ints, SX.foldI, SX.evBin, SX.evInt, SX.evStr, SX.evEq, SX.arith, SX.evLoad, SX.shapeUp, SX.evFieldAddr, SX.evField, SX.evIndexAddr, SX.evIndex, SX.evFill, SX.evBuild, SX.szs, SX.cellsV, SX.evNew, SX.evStore, SX.spliceL, SX.SV.cells, SX.evConv, SX.evSlice, SX.bnd, SX.evNil, SX.evUn, SX.evPick, SX.pickOpd, SX.popTo, SX.cnd, SX.env0, SX.TD.isAgg, SX.TD.isIface, SX.tails, SX.NotAgg, SX.evLookup, SX.evConvH, SX.evPtrEq, SX.isCells, SX.thaw, SX.frz, SX.fixB, SX.rootIx, SX.Froz, SX.frzStep, SX.fork, Go.Value.cells, Go.undef, cfg41]
    refine ⟨by (unfold SX.Ob; first | trivial | omega | ((try simp only [SX.inK]); (try simp [SX.den, SX.IsU8, SX.AllP, *]); (try omega))), ?_⟩
    intro a10 w10 hr10 _
    refine post_retn (end1 hr10 rfl rfl ⟨_, [b], rfl, ?_, hMB, hr10.keeps⟩).1
    refine .inr ⟨b, N, cap, u, _, .inl hQ, by simp [den]; omega, hc0, by simp; omega, hc2, hr10.all.1.1, fun j hj => ?_⟩
    have hj' : j < L.length + 1 := by simp at hj; omega
    rw [nth_ins hi]
    unfold copyRow
    by_cases h1 : j < i
    · simp only [if_pos h1]
      rw [if_pos (by omega), hrow j (by omega)]
    · simp only [if_neg h1]
      by_cases h2 : j < i + 1
      · simp only [if_pos h2]
        rw [if_pos (by omega)]
      · simp only [if_neg h2]
        rw [if_neg (by omega), if_pos (by omega), hrow _ (by omega), show i + (j - (i + 1)) = j - 1 by omega]

set_option maxRecDepth 100000 in
set_option maxHeartbeats 8000000 in
/-- Insert into any list of one's own. -/
theorem insert_ok {Q : Nat → Prop} (w : World) (v : Value) (L : List Lse) (hO : OwL Q w v L) (i : Nat) (hi : i ≤ L.length) (hn : L.length ≤ 1000000) (s us : Nat) (x : Lse) (hs : (SO.arr 0 1 (fun _ => lseC x) 4 us (0, 0)).rep w s) (hsQ : ¬ Q s) :
    Calls Try.prog 41 (denL [.v v, .v (.int .i64 i), .sl 1 s 0 0 1 1 4]).toArray w (InsR Q w (L.take i ++ x :: L.drop i)) := by
  rcases hO with ⟨rfl, ad, rfl⟩ | h
  rotate_left
  · exact insert_opn w v L h i hi hn s us x hs hsQ
  obtain rfl : i = 0 := by simpa using hi
  rcases ad with _ | ad
  · refine enter (F := frame0 w) Try.func41 rfl [.v (.slice none 0 0), .v (.int .i64 0), .sl 0 s 0 0 1 1 4] [(s, false, .arr 0 1 (fun _ => lseC x) 4 us (0, 0))] (by simp [Try.f41, denL, den]) (HpAll.one hs) (keeps0 w) fun a hr => ?_
    refine seg cfg41_ok mixed PanicFree.body 1000 [false, true] [] hr (by first | trivial | exact HpRep.nil | assumption) (by kernel_rfl) fun s_ hs_ => ?_
    simp (maxSteps := 10000000) [SX.vc, SX.stop, SX.contS, SX.contB, SX.contW, SX.contR, SX.contD, SX.sxStep, SX.stepPure, SX.stepNew, SX.stepStore, SX.stepKeep, SX.guardIx, SX.evOp, SX.opd, SX.opds, SX.optOpd, SX.look, SX.putS, SX.gobs, SX.AllP, SX.leave, SX.lookC, SX.lookB, SX.lookT, SX.lookN, SX.findK, SX.evBuiltin, SX.ints, SX.foldI, SX.evBin, SX.evInt, SX.evStr, SX.evEq, SX.arith, SX.evLoad, SX.shapeUp, SX.evFieldAddr, SX.evField, SX.evIndexAddr, SX.evIndex, SX.evFill, SX.evBuild, SX.szs, SX.cellsV, SX.evNew, SX.evStore, SX.spliceL, SX.SV.cells, SX.evConv, SX.evSlice, SX.bnd, SX.evNil, SX.evUn, SX.evPick, SX.pickOpd, SX.popTo, SX.cnd, SX.env0, SX.TD.isAgg, SX.TD.isIface, SX.tails, SX.NotAgg, SX.evLookup, SX.evConvH, SX.evPtrEq, SX.isCells, SX.thaw, SX.frz, SX.fixB, SX.rootIx, SX.Froz, SX.frzStep, SX.fork, Go.Value.cells, Go.undef, cfg41, Try.f41]
    refine ⟨by (unfold SX.Ob; first | trivial | omega | ((try simp only [SX.inK]); (try simp [SX.den, SX.IsU8, SX.AllP, *]); (try omega))), ?_⟩
    intro a1 w1 hr1 _
    have z1 : w.heap.size ≤ w1.heap.size := hr1.keeps.size
    refine post_app (C := cfg41) cfg41_ok hr1 (by first | exact wanted_none rfl | exact wanted_zero (hr1.env.same rfl rfl rfl rfl) rfl (by simp)) rfl (by simp) rfl rfl rfl rfl rfl rfl rfl rfl rfl (by decide) (flatL _) (by (try simp only [List.length_append, List.length_cons, List.length_nil, List.length_map, List.length_take]); omega) (fun x hx => Nat.le_trans z1 hx) (OwS.nil (d := lse0) (P := fun z => w.heap.size ≤ z)) (RdS.lit (x := x) hr1.all.1.1 rfl) [] (fun _ _ _ _ => trivial) (fun x hx => .inl hx) fun V2 a2 w2 B2 hO2 hB2 hk2 hr2 => ?_
    refine seg cfg41_ok mixed PanicFree.body 1000 [] [] hr2.rebase (by first | trivial | exact HpRep.nil | assumption) (by kernel_rfl) fun s_ hs_ => ?_
    simp (maxSteps := 10000000) [SX.vc, SX.stop, SX.contS, SX.contB, SX.contW, SX.contR, SX.contD, SX.sxStep, SX.stepPure, SX.stepNew, SX.stepStore, SX.stepKeep, SX.guardIx, SX.evOp, SX.opd, SX.opds, SX.optOpd, SX.look, SX.putS, SX.gobs, SX.AllP, SX.leave, SX.lookC, SX.lookB, SX.lookT, SX.lookN, SX.findK, SX.evBuiltin, SX.ints, SX.foldI, SX.evBin, SX.evInt, SX.evStr, SX.evEq, SX.arith, SX.evLoad, SX.shapeUp, SX.evFieldAddr, SX.evField, SX.evIndexAddr, SX.evIndex, SX.evFill, SX.evBuild, SX.szs, SX.cellsV, SX.evNew, SX.evStore, SX.spliceL, SX.SV.cells, SX.evConv, SX.evSlice, SX.bnd, SX.evNil, SX.evUn, SX.evPick, SX.pickOpd, SX.popTo, SX.cnd, SX.env0, SX.TD.isAgg, SX.TD.isIface, SX.tails, SX.NotAgg, SX.evLookup, SX.evConvH, SX.evPtrEq, SX.isCells, SX.thaw, SX.frz, SX.fixB, SX.rootIx, SX.Froz, SX.frzStep, SX.fork, Go.Value.cells, Go.undef, cfg41]
    refine ⟨by (unfold SX.Ob; first | trivial | omega | ((try simp only [SX.inK]); (try simp [SX.den, SX.IsU8, SX.AllP, *]); (try omega))), ?_⟩
    intro a3 w3 hr3' _
    have hr3 := hr2.unbase hr3'
    exact post_retn (end1 hr3 rfl rfl ⟨_, [], rfl, (hO2.keep hr3'.keeps (by simp [frameAt, mutB])).mono fun z _ h => .inr h, by simp, hr3.keeps⟩).1
  · refine enter (F := frame0 w) Try.func41 rfl [.v (.slice (some ad) 0 0), .v (.int .i64 0), .sl 0 s 0 0 1 1 4] [(s, false, .arr 0 1 (fun _ => lseC x) 4 us (0, 0))] (by simp [Try.f41, denL, den]) (HpAll.one hs) (keeps0 w) fun a hr => ?_
    refine seg cfg41_ok mixed PanicFree.body 1000 [false, true] [] hr (by first | trivial | exact HpRep.nil | assumption) (by kernel_rfl) fun s_ hs_ => ?_
    simp (maxSteps := 10000000) [SX.vc, SX.stop, SX.contS, SX.contB, SX.contW, SX.contR, SX.contD, SX.sxStep, SX.stepPure, SX.stepNew, SX.stepStore, SX.stepKeep, SX.guardIx, SX.evOp, SX.opd, SX.opds, SX.optOpd, SX.look, SX.putS, SX.gobs, SX.AllP, SX.leave, SX.lookC, SX.lookB, SX.lookT, SX.lookN, SX.findK, SX.evBuiltin, SX.ints, SX.foldI, SX.evBin, SX.evInt, SX.evStr, SX.evEq, SX.arith, SX.evLoad, SX.shapeUp, SX.evFieldAddr, SX.evField, SX.evIndexAddr, SX.evIndex, SX.evFill, SX.evBuild, SX.szs, SX.cellsV, SX.evNew, SX.evStore, SX.spliceL, SX.SV.cells, SX.evConv, SX.evSlice, SX.bnd, SX.evNil, SX.evUn, SX.evPick, SX.pickOpd, SX.popTo, SX.cnd, SX.env0, SX.TD.isAgg, SX.TD.isIface, SX.tails, SX.NotAgg, SX.evLookup, SX.evConvH, SX.evPtrEq, SX.isCells, SX.thaw, SX.frz, SX.fixB, SX.rootIx, SX.Froz, SX.frzStep, SX.fork, Go.Value.cells, Go.undef, cfg41, Try.f41]
    refine ⟨by (unfold SX.Ob; first | trivial | omega | ((try simp only [SX.inK]); (try simp [SX.den, SX.IsU8, SX.AllP, *]); (try omega))), ?_⟩
    intro a1 w1 hr1 _
    have z1 : w.heap.size ≤ w1.heap.size := hr1.keeps.size
    have hOn : OwL (fun z => w.heap.size ≤ z) w1 (.slice (some ad) 0 0) [] := .inl ⟨rfl, _, rfl⟩
    refine post_app (C := cfg41) cfg41_ok hr1 (by first | exact wanted_none rfl | exact wanted_zero (hr1.env.same rfl rfl rfl rfl) rfl (by simp)) rfl (by simp) rfl rfl rfl rfl rfl rfl rfl rfl rfl (by decide) (flatL _) (by (try simp only [List.length_append, List.length_cons, List.length_nil, List.length_map, List.length_take]); omega) (fun x hx => Nat.le_trans z1 hx) hOn (RdS.lit (x := x) hr1.all.1.1 rfl) [] (fun _ _ _ _ => trivial) (fun x hx => .inl hx) fun V2 a2 w2 B2 hO2 hB2 hk2 hr2 => ?_
    refine seg cfg41_ok mixed PanicFree.body 1000 [] [] hr2.rebase (by first | trivial | exact HpRep.nil | assumption) (by kernel_rfl) fun s_ hs_ => ?_
    simp (maxSteps := 10000000) [SX.vc, SX.stop, SX.contS, SX.contB, SX.contW, SX.contR, SX.contD, SX.sxStep, SX.stepPure, SX.stepNew, SX.stepStore, SX.stepKeep, SX.guardIx, SX.evOp, SX.opd, SX.opds, SX.optOpd, SX.look, SX.putS, SX.gobs, SX.AllP, SX.leave, SX.lookC, SX.lookB, SX.lookT, SX.lookN, SX.findK, SX.evBuiltin, SX.ints, SX.foldI, SX.evBin, SX.evInt, SX.evStr, SX.evEq, SX.arith, SX.evLoad, SX.shapeUp, SX.evFieldAddr, SX.evField, SX.evIndexAddr, SX.evIndex, SX.evFill, SX.evBuild, SX.szs, SX.cellsV, SX.evNew, SX.evStore, SX.spliceL, SX.SV.cells, SX.evConv, SX.evSlice, SX.bnd, SX.evNil, SX.evUn, SX.evPick, SX.pickOpd, SX.popTo, SX.cnd, SX.env0, SX.TD.isAgg, SX.TD.isIface, SX.tails, SX.NotAgg, SX.evLookup, SX.evConvH, SX.evPtrEq, SX.isCells, SX.thaw, SX.frz, SX.fixB, SX.rootIx, SX.Froz, SX.frzStep, SX.fork, Go.Value.cells, Go.undef, cfg41]
    refine ⟨by (unfold SX.Ob; first | trivial | omega | ((try simp only [SX.inK]); (try simp [SX.den, SX.IsU8, SX.AllP, *]); (try omega))), ?_⟩
    intro a3 w3 hr3' _
    have hr3 := hr2.unbase hr3'
    exact post_retn (end1 hr3 rfl rfl ⟨_, [], rfl, (hO2.keep hr3'.keeps (by simp [frameAt, mutB])).mono fun z _ h => .inr h, by simp, hr3.keeps⟩).1
end Go.Proofs
