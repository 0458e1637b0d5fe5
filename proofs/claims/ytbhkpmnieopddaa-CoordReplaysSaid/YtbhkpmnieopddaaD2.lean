/- D2: texts of this proof, joined. -/
import Derived.Test.YtbhkpmnieopddaaD1
import Derived.Test.YtbhkpmnieopddaaA4
set_option linter.unusedVariables false
set_option linter.unusedSimpArgs false
set_option linter.unusedSectionVars false
namespace Go.Proofs.S7
open Go Go.Proofs Go.SX Go.RowKit
def InsR (Q : Nat → Prop) (w : World) (L' : List Spn) (e : Ending) (w' : World) : Prop := ∃ v' B, e = .returned v' ∧ OwP (fun x => Q x ∨ w.heap.size ≤ x) w' v' L' ∧ (∀ b ∈ B, Q b ∧ b < w.heap.size) ∧ KeepsTo w B w'
theorem nth_ins {L : List Spn} {i q : Nat} {x : Spn} (hi : i ≤ L.length) : nth spn0 (L.take i ++ x :: L.drop i) q = if q < i then nth spn0 L q else if q < i + 1 then x else nth spn0 L (q - 1) := by
  unfold nth
  simp only [List.getD_eq_getElem?_getD]
  by_cases h1 : q < i
  · rw [if_pos h1, List.getElem?_append_left (by simp; omega), List.getElem?_take, if_pos h1]
  · rw [if_neg h1, List.getElem?_append_right (by simp; omega)]
    have e : min i L.length = i := Nat.min_eq_left hi
    simp only [List.length_take, e]
    by_cases h2 : q < i + 1
    · rw [if_pos h2]
      obtain rfl : q = i := by omega
      simp
    · rw [if_neg h2]
      obtain ⟨p, rfl⟩ : ∃ p, q = i + 1 + p := ⟨q - (i + 1), by omega⟩
      rw [show i + 1 + p - i = p + 1 by omega, List.getElem?_cons_succ, List.getElem?_drop]
      congr 2
      omega
set_option maxRecDepth 100000 in
set_option maxHeartbeats 8000000 in
theorem insert_ok {Q : Nat → Prop} (w : World) (v : Value) (L : List Spn) (hO : OwP Q w v L) (i : Nat) (h0 : 0 < L.length) (hi : i ≤ L.length) (hn : L.length ≤ 1000000) (s us : Nat) (x : Spn) (hs : (SO.arr 0 1 (fun _ => spnC x) 4 us (0, 0)).rep w s) (hsQ : ¬ Q s) :
    Calls Try.prog 90 (denL [.v v, .v (.int .i64 i), .sl 1 s 0 0 1 1 4]).toArray w (InsR Q w (L.take i ++ x :: L.drop i)) := by
  obtain ⟨b, N, cap, u, row, hQ, rfl, hc0, hc1, hc2, hrep, hrow⟩ := hO.opn h0
  have hbs : b ≠ s := fun h => hsQ (h ▸ hQ)
  have hbw := SO.rep_lt hrep
  have hE : HpAll ⟨w, w.heap.size, [b]⟩ w [(b, true, .arr 0 N row 4 u (0, 0)), (s, false, .arr 0 1 (fun _ => spnC x) 4 us (0, 0))] := ⟨⟨hrep, fun _ => .inr (by simp), fun e he => by simp at he; subst he; exact hbs⟩, HpAll.one hs⟩
  refine enter (F := ⟨w, w.heap.size, [b]⟩) Try.func90 rfl [.sl 0 b 0 0 L.length cap 4, .v (.int .i64 i), .sl 1 s 0 0 1 1 4] _ (by simp [Try.f90]) hE (KeepsTo.refl w _) fun a hr => ?_
  have hMB : ∀ z ∈ [b], Q z ∧ z < w.heap.size := by simpa using ⟨hQ, hbw⟩
  by_cases hil : i = L.length
  · have hil' : (i : Int) = (L.length : Int) := by omega
    refine seg cfg90_ok mixed PanicFree.body 1000 [false, true] [] hr (by first | trivial | exact HpRep.nil | assumption) (by kernel_rfl) fun s_ hs_ => ?_
    simp (maxSteps := 10000000) [SX.vc, SX.stop, SX.contS, SX.contB, SX.sxStep, SX.stepPure, SX.stepNew, SX.stepStore, SX.guardIx, SX.evOp, SX.opd, SX.opds, SX.optOpd, SX.look, SX.putS, SX.gobs, SX.AllP, SX.leave, SX.lookT, SX.evBuiltin, SX.evBin, SX.evInt, SX.evNew, SX.evStore, SX.evSlice, SX.bnd, SX.env0, cfg90, Try.f90, hil']
    refine ⟨by (unfold SX.Ob; first | trivial | omega | ((try simp only [SX.inK]); (try simp [SX.den, SX.IsU8, SX.AllP, *]); (try omega))), ?_⟩
    intro a1 w1 hr1 _
    have z1 : w.heap.size ≤ w1.heap.size := hr1.keeps.size
    have hO1 : OwP (fun z => z = b ∨ w.heap.size ≤ z) w1 (.slice (some ⟨b, 0, none⟩) L.length cap) L := .inr ⟨b, N, cap, u, row, .inl rfl, rfl, hc0, hc1, hc2, hr1.all.1.1, hrow⟩
    refine post_app (C := cfg90) cfg90_ok hr1 (by first | exact wanted_none rfl | exact wanted_zero (hr1.env.same rfl rfl rfl rfl) rfl (by simp)) rfl (by simp) rfl rfl rfl rfl rfl rfl rfl rfl rfl (by decide) (flatS _) (by (try simp only [List.length_cons, List.length_nil]); omega) (fun x hx => .inr (Nat.le_trans z1 hx)) hO1 (RdS.lit (x := x) hr1.all.2.1.1 rfl) [] (fun _ _ _ _ => trivial) (fun x hx => hx.elim (fun h => .inr (by simp [h])) .inl) fun V2 a2 w2 B2 hO2 hB2 hk2 hr2 => ?_
    refine seg cfg90_ok mixed PanicFree.body 1000 [] [] hr2.rebase (by first | trivial | exact HpRep.nil | assumption) (by kernel_rfl) fun s_ hs_ => ?_
    simp (maxSteps := 10000000) [SX.vc, SX.stop, SX.contS, SX.sxStep, SX.stepPure, SX.guardIx, SX.evOp, SX.opd, SX.look, SX.putS, SX.gobs, SX.AllP, SX.leave, cfg90]
    refine ⟨by (unfold SX.Ob; first | trivial | omega | ((try simp only [SX.inK]); (try simp [SX.den, SX.IsU8, SX.AllP, *]); (try omega))), ?_⟩
    intro a3 w3 hr3' _
    have hr3 := hr2.unbase hr3'
    refine post_retn (end1 hr3 rfl rfl ⟨_, [b], rfl, ?_, hMB, hr3.keeps⟩).1
    have hO3 := (hO2.keep hr3'.keeps (by simp [mutB])).mono (P' := fun z => Q z ∨ w.heap.size ≤ z) fun z _ h => h.elim (fun h => .inl (h ▸ hQ)) .inr
    rw [hil, List.take_length, List.drop_length]
    exact hO3
  have hil' : ¬ (i : Int) = (L.length : Int) := by omega
  have hci : ¬ cap = i := by omega
  by_cases hcap : cap < L.length + 1
  · have hcap' : (cap : Int) < (L.length : Int) + 1 := by omega
    obtain ⟨q, hq⟩ : ∃ q, L.length + 1 - i = q := ⟨_, rfl⟩
    have hq' : (L.length : Int) + 1 - (i : Int) = (q : Int) := by omega
    refine seg cfg90_ok mixed PanicFree.body 1000 [false, false, true] [] hr (by first | trivial | exact HpRep.nil | assumption) (by kernel_rfl) fun s_ hs_ => ?_
    simp (maxSteps := 10000000) [SX.vc, SX.stop, SX.contS, SX.contB, SX.sxStep, SX.stepPure, SX.stepNew, SX.stepStore, SX.guardIx, SX.evOp, SX.opd, SX.opds, SX.optOpd, SX.look, SX.putS, SX.gobs, SX.AllP, SX.leave, SX.lookT, SX.evBuiltin, SX.evBin, SX.evInt, SX.arith, SX.evNew, SX.evStore, SX.evSlice, SX.bnd, SX.env0, cfg90, Try.f90, hil', hcap', hq', hci]
    refine ⟨by (unfold SX.Ob; first | trivial | omega | ((try simp only [SX.inK]); (try simp [SX.den, SX.IsU8, SX.AllP, *]); (try omega))), ?_⟩
    intro a1 w1 hr1 _
    have hRd : RdP (fun _ => True) w1 (.slice (some ⟨b, 0, none⟩) i cap) (L.take i) := by
      have h := RdS.part (enc := spnC) (sz := 4) (d := spn0) (L := L) (P := fun _ => True) (base := 0) (len := i) (cap := cap) (n := L.length) trivial rfl (rep_arr_sub (row' := fun j => spnC (nth spn0 L j)) hr1.all.1.1 (by omega) (fun j hj => by rw [hrow j hj])) (by omega) (by omega)
      simpa using h
    refine post_appMakeN (C := cfg90) (enc := spnC) (d := spn0) (n := q) (L := L.take i) (Pb := fun _ => True) cfg90_ok hr1 (wanted_none rfl) rfl (by simp) rfl rfl rfl rfl rfl rfl rfl rfl rfl (by decide) rfl (by decide) (flatS [spn0] _ (by simp)) (by omega) (by simp only [List.length_take]; show (2 * (min i L.length + q) + 192) * 32 ≤ _; omega) (by omega) hRd (by simp only [List.length_take, den]; rw [Nat.min_eq_left hi]) (by simp only [List.length_take]; omega) ?_
    intro V2 a2 w2 hO2 hk2 hr2
    have hlen : (L.take i ++ List.replicate q spn0).length = L.length + 1 := by simp; omega
    obtain ⟨b2, N2, cap2, u2, row2, hP2, rfl, hd0, hd1, hd2, hrep2, hrow2⟩ := hO2.opn (show 0 < (L.take i ++ List.replicate q spn0).length by omega)
    rw [hlen] at hd1 hr2
    have z1 : w.heap.size ≤ w1.heap.size := hr1.keeps.size
    have hsw := SO.rep_lt hs
    have h3 := (hr2.top 40 (.sl 2 b2 0 0 (L.length + 1) cap2 4) rfl (by simp [den])).see [(b, true, .arr 0 N row 4 u (0, 0)), (s, false, .arr 0 1 (fun _ => spnC x) 4 us (0, 0)), (b2, true, .arr 0 N2 row2 4 u2 (0, 0))] ⟨⟨hr2.all.1.1, fun _ => .inr (by simp), by simp; omega⟩, ⟨hr2.all.2.1.1, by simp, by simp; omega⟩, ⟨hrep2, fun _ => .inl (Nat.le_trans z1 hP2), by simp⟩, trivial⟩
    have hci2 : ¬ cap2 = i := by omega
    have hci3 : ¬ cap2 = i + 1 := by omega
    refine seg cfg90_ok mixed PanicFree.body 1000 [] [] h3 (by first | trivial | exact HpRep.nil | assumption) (by kernel_rfl) fun s_ hs_ => ?_
    simp (maxSteps := 10000000) [SX.vc, SX.stop, SX.contS, SX.sxStep, SX.stepPure, SX.stepNew, SX.stepStore, SX.guardIx, SX.evOp, SX.opd, SX.opds, SX.optOpd, SX.look, SX.putS, SX.gobs, SX.AllP, SX.leave, SX.lookT, SX.evBuiltin, SX.evNew, SX.evStore, SX.evSlice, SX.bnd, cfg90, hci2]
    refine ⟨by (unfold SX.Ob; first | trivial | omega | ((try simp only [SX.inK]); (try simp [SX.den, SX.IsU8, SX.AllP, *]); (try omega))), ?_⟩
    intro a4 w4 hr4 _
    refine post_copy (C := cfg90) cfg90_ok hr4 rfl rfl (by simp) rfl rfl rfl rfl rfl rfl rfl rfl rfl (by omega) (by omega) (fun _ _ => flatS [x] x (by simp)) fun a5 w5 hr5 => ?_
    refine seg cfg90_ok mixed PanicFree.body 1000 [] [] hr5 (by first | trivial | exact HpRep.nil | assumption) (by kernel_rfl) fun s_ hs_ => ?_
    simp (maxSteps := 10000000) [SX.vc, SX.stop, SX.contS, SX.contB, SX.contR, SX.contD, SX.sxStep, SX.stepPure, SX.stepNew, SX.stepStore, SX.guardIx, SX.evOp, SX.opd, SX.opds, SX.optOpd, SX.look, SX.putS, SX.gobs, SX.AllP, SX.leave, SX.lookT, SX.lookN, SX.evBuiltin, SX.evBin, SX.evInt, SX.arith, SX.evNew, SX.evStore, SX.evSlice, SX.bnd, SX.evUn, SX.tails, SX.thaw, SX.frzStep, cfg90, hci, hci3]
    refine ⟨by (unfold SX.Ob; first | trivial | omega | ((try simp only [SX.inK]); (try simp [SX.den, SX.IsU8, SX.AllP, *]); (try omega))), ?_⟩
    intro a6 w6 hr6 _
    have hfr : ∀ q, q < min (L.length - i) (L.length - i) → ∀ z ∈ row (i + q), NotAgg (den z) := fun q hq => by
      rw [hrow _ (by omega)]
      exact flatS [nth spn0 L (i + q)] _ (by simp)
    have hfz : frz (thaw [(b, true, SO.arr 0 N row 4 u (0, 0)), (s, false, SO.arr 0 1 (fun _ => spnC x) 4 us (0, 0)), (b2, true, SO.arr 0 N2 (copyRow row2 (fun _ => spnC x) i 0 (min 1 (L.length + 1 - i))) 4 u2 (0, 0))]) = [] := frz_thaw _
    refine post_copyD (C := cfg90) cfg90_ok hr6 rfl hfz rfl rfl (by simp) rfl rfl rfl rfl rfl rfl rfl rfl rfl (by omega) (by omega) hfr fun a7 w7 hr7 => ?_
    refine seg cfg90_ok mixed PanicFree.body 1000 [] [] hr7 (by first | trivial | exact HpRep.nil | assumption) (by kernel_rfl) fun s_ hs_ => ?_
    simp (maxSteps := 10000000) [SX.vc, SX.stop, SX.contS, SX.sxStep, SX.stepPure, SX.guardIx, SX.evOp, SX.opd, SX.look, SX.putS, SX.gobs, SX.AllP, SX.leave, cfg90]
    refine ⟨by (unfold SX.Ob; first | trivial | omega | ((try simp only [SX.inK]); (try simp [SX.den, SX.IsU8, SX.AllP, *]); (try omega))), ?_⟩
    intro a8 w8 hr8 _
    have hA8 := hr8.all.2.2.1
    refine post_retn (end1 hr8 rfl rfl ⟨_, [b], rfl, ?_, hMB, hr8.keeps⟩).1
    refine .inr ⟨b2, N2, cap2, u2, _, .inr (Nat.le_trans z1 hP2), by simp [den]; omega, hd0, by simp; omega, hd2, hA8.1, fun j hj => ?_⟩
    have hj' : j < L.length + 1 := by simp at hj; omega
    rw [nth_ins hi]
    unfold copyRow
    by_cases h1 : j < i
    · rw [if_pos (by omega), if_pos h1, if_pos h1, hrow2 j (by rw [hlen]; omega), nth_append_left (by simp; omega)]
      congr 1
      have := nth_part (d := spn0) (L := L) (i := 0) (n := i) h1
      simpa using this
    · simp only [if_neg h1]
      by_cases h2 : j < i + 1
      · simp only [if_pos h2]
        rw [if_pos (by omega)]
      · simp only [if_neg h2]
        rw [if_pos (by omega), hrow _ (by omega), show i + (j - (i + 1)) = j - 1 by omega]
  · have hcap' : ¬ (cap : Int) < (L.length : Int) + 1 := by omega
    refine seg cfg90_ok mixed PanicFree.body 1000 [false, false, false] [] hr (by first | trivial | exact HpRep.nil | assumption) (by kernel_rfl) fun s_ hs_ => ?_
    simp (maxSteps := 10000000) [SX.vc, SX.stop, SX.contS, SX.contB, SX.sxStep, SX.stepPure, SX.stepNew, SX.stepStore, SX.guardIx, SX.evOp, SX.opd, SX.opds, SX.optOpd, SX.look, SX.putS, SX.gobs, SX.AllP, SX.leave, SX.lookT, SX.evBuiltin, SX.evBin, SX.evInt, SX.arith, SX.evNew, SX.evStore, SX.evSlice, SX.bnd, SX.env0, cfg90, Try.f90, hil', hcap', hci]
    refine ⟨by (unfold SX.Ob; first | trivial | omega | ((try simp only [SX.inK]); (try simp [SX.den, SX.IsU8, SX.AllP, *]); (try omega))), ?_⟩
    intro a1 w1 hr1 _
    refine post_step rfl (exec_overlaps (C := cfg90) (fn := Try.f96) (hr1.env.same rfl rfl rfl rfl) hr1.hp (m1 := 0) rfl Try.func96 (by kernel_rfl) (by kernel_rfl) (by kernel_rfl) (tS := 28) (tR := 4) (e := 50) (by kernel_rfl) cfg90_ok rfl rfl rfl rfl rfl (fun h => hbs h.symm) (by omega) (by omega)) ?_
    have hr2 := hr1.retK (KeepsTo.refl w1 []) (by simp) 67 (.v (.bool false)) rfl _ hr1.all (by simp) rfl
    have hci3 : ¬ cap = i + 1 := by omega
    refine seg cfg90_ok mixed PanicFree.body 1000 [true] [] hr2 (by first | trivial | exact HpRep.nil | assumption) (by kernel_rfl) fun s_ hs_ => ?_
    simp (maxSteps := 10000000) [SX.vc, SX.stop, SX.contS, SX.contB, SX.contR, SX.contD, SX.sxStep, SX.stepPure, SX.stepNew, SX.stepStore, SX.guardIx, SX.evOp, SX.opd, SX.opds, SX.optOpd, SX.look, SX.putS, SX.gobs, SX.AllP, SX.leave, SX.lookT, SX.lookN, SX.evBuiltin, SX.evBin, SX.evInt, SX.arith, SX.evNew, SX.evStore, SX.evSlice, SX.bnd, SX.evUn, SX.tails, SX.thaw, SX.frzStep, cfg90, hci, hci3]
    refine ⟨by (unfold SX.Ob; first | trivial | omega | ((try simp only [SX.inK]); (try simp [SX.den, SX.IsU8, SX.AllP, *]); (try omega))), ?_⟩
    intro a6 w6 hr6 _
    have hfr : ∀ q, q < min (L.length + 1 - i) (L.length - i) → ∀ z ∈ row (i + q), NotAgg (den z) := fun q hq => by
      rw [hrow _ (by omega)]
      exact flatS [nth spn0 L (i + q)] _ (by simp)
    have hfz : frz (thaw [(b, true, SO.arr 0 N row 4 u (0, 0)), (s, false, SO.arr 0 1 (fun _ => spnC x) 4 us (0, 0))]) = [] := frz_thaw _
    refine post_copyD (C := cfg90) cfg90_ok hr6 rfl hfz rfl rfl (by simp) rfl rfl rfl rfl rfl rfl rfl rfl rfl (by omega) (by omega) hfr fun a7 w7 hr7 => ?_
    refine seg cfg90_ok mixed PanicFree.body 1000 [] [] hr7 (by first | trivial | exact HpRep.nil | assumption) (by kernel_rfl) fun s_ hs_ => ?_
    simp (maxSteps := 10000000) [SX.vc, SX.stop, SX.contS, SX.sxStep, SX.stepPure, SX.stepNew, SX.stepStore, SX.guardIx, SX.evOp, SX.opd, SX.opds, SX.optOpd, SX.look, SX.putS, SX.gobs, SX.AllP, SX.lookT, SX.evBuiltin, SX.evNew, SX.evStore, SX.evSlice, SX.bnd, cfg90, hci]
    refine ⟨by (unfold SX.Ob; first | trivial | omega | ((try simp only [SX.inK]); (try simp [SX.den, SX.IsU8, SX.AllP, *]); (try omega))), ?_⟩
    intro a8 w8 hr8 _
    refine post_copy (C := cfg90) cfg90_ok hr8 rfl rfl (by simp) rfl rfl rfl rfl rfl rfl rfl rfl rfl (by omega) (by omega) (fun _ _ => flatS [x] x (by simp)) fun a9 w9 hr9 => ?_
    refine seg cfg90_ok mixed PanicFree.body 1000 [] [] hr9 (by first | trivial | exact HpRep.nil | assumption) (by kernel_rfl) fun s_ hs_ => ?_
    simp (maxSteps := 10000000) [SX.vc, SX.stop, SX.contS, SX.sxStep, SX.stepPure, SX.guardIx, SX.evOp, SX.opd, SX.look, SX.putS, SX.gobs, SX.AllP, SX.leave, cfg90]
    refine ⟨by (unfold SX.Ob; first | trivial | omega | ((try simp only [SX.inK]); (try simp [SX.den, SX.IsU8, SX.AllP, *]); (try omega))), ?_⟩
    intro a10 w10 hr10 _
    refine post_retn (end1 hr10 rfl rfl ⟨_, [b], rfl, ?_, hMB, hr10.keeps⟩).1
    refine .inr ⟨b, N, cap, u, _, .inl hQ, by simp [den]; omega, hc0, by simp; omega, hc2, hr10.all.1.1, fun j hj => ?_⟩
    have hj' : j < L.length + 1 := by simp at hj; omega
    rw [nth_ins hi]
    unfold copyRow
    by_cases h1 : j < i
    · simp only [if_pos h1]
      rw [if_pos (by omega), hrow j (by omega)]
    · simp only [if_neg h1]
      by_cases h2 : j < i + 1
      · simp only [if_pos h2]
        rw [if_pos (by omega)]
      · simp only [if_neg h2]
        rw [if_neg (by omega), if_pos (by omega), hrow _ (by omega), show i + (j - (i + 1)) = j - 1 by omega]
end Go.Proofs.S7
namespace Go.Proofs.S7
open Go Go.Proofs Go.SX Go.RowKit
def intC (x : Int) : List SV := [.v (.int .i64 x)]
abbrev RdI := RdS intC 1 (0 : Int)
def cutS (a : Int) : List Spn → List Spn
  | [] => []
  | s :: r => if InS a s then (if s.fr = a then s :: r else { s with to := a } :: { s with fr := a } :: r) else s :: cutS a r
def cutsS : List Int → List Spn → List Spn
  | [], L => L
  | a :: A, L => cutsS A (cutS a L)
theorem cutS_no {a : Int} : ∀ {L : List Spn}, (∀ j, j < L.length → ¬ InS a (nth spn0 L j)) → cutS a L = L
  | [], _ => rfl
  | s :: r, h => by
    have h0 : ¬ InS a s := h 0 (by simp)
    rw [cutS, if_neg h0, cutS_no fun j hj => h (j + 1) (by simpa using hj)]
theorem cutS_at {a : Int} : ∀ {L : List Spn} {k : Nat}, k < L.length → InS a (nth spn0 L k) → (∀ j, j < k → ¬ InS a (nth spn0 L j)) →
    cutS a L = if (nth spn0 L k).fr = a then L else (L.set k { nth spn0 L k with to := a }).take (k + 1) ++ { nth spn0 L k with fr := a } :: (L.set k { nth spn0 L k with to := a }).drop (k + 1)
  | [], k, hk, _, _ => by simp at hk
  | s :: r, 0, _, hi, _ => by
    have hi' : InS a s := hi
    rw [cutS, if_pos hi']
    rfl
  | s :: r, k + 1, hk, hi, hno => by
    have h0 : ¬ InS a s := hno 0 (by omega)
    have ih := cutS_at (L := r) (k := k) (a := a) (by simpa using hk) hi fun j hj => hno (j + 1) (by omega)
    rw [cutS, if_neg h0, ih]
    show _ = if (nth spn0 r k).fr = a then _ else _
    split
    · rfl
    · rfl
theorem cutS_len (a : Int) : ∀ L : List Spn, (cutS a L).length ≤ L.length + 1
  | [] => by simp [cutS]
  | s :: r => by
    have := cutS_len a r
    unfold cutS
    split
    · split <;> simp
    · simp; omega
def CutLoop (w : World) (va : Value) (A : List Int) (L : List Spn) (m : Nat) (a : Act) (w' : World) : Prop :=
  ∃ (k : Nat) (out : List Spn) (v' : Value), m = A.length - k ∧ k ≤ A.length ∧ cutsS (A.drop k) out = cutsS A L ∧ 0 < out.length ∧ out.length ≤ L.length + k ∧ OwP (fun x => w.heap.size ≤ x) w' v' out ∧
    RepX (frame0 w) ⟨[(14, 0, .v (.int .i64 k)), (13, 0, .v (.int .i64 A.length)), (12, 0, .v va), (5, 0, .v v')], [], 0, 0, 51, [], [], []⟩ a w'
set_option maxRecDepth 100000 in
set_option maxHeartbeats 8000000 in
theorem cut_ok {P P' : Nat → Prop} (w : World) (v va : Value) (L : List Spn) (A : List Int) (hL : RdP P w v L) (hA : RdI P' w va A) (h0 : 0 < L.length) (hn : L.length ≤ 500000) (hnA : A.length ≤ 100000) : Calls Try.prog 74 (denL [.v v, .v va]).toArray w (OwR w (cutsS A L)) := by
  obtain ⟨ad, cp, rfl⟩ := hL.slice
  obtain ⟨ad', cp', rfl⟩ := hA.slice
  refine enter (F := frame0 w) Try.func74 rfl [.v (.slice ad L.length cp), .v (.slice ad' A.length cp')] [] (by simp [Try.f74]) trivial (keeps0 w) fun a hr => ?_
  refine seg cfg74_ok mixed PanicFree.body 1000 [] [] hr (by first | trivial | exact HpRep.nil | assumption) (by kernel_rfl) fun s_ hs_ => ?_
  simp (maxSteps := 10000000) [SX.vc, SX.stop, SX.contS, SX.sxStep, SX.stepPure, SX.stepNew, SX.stepStore, SX.guardIx, SX.evOp, SX.opd, SX.look, SX.putS, SX.gobs, SX.AllP, SX.leave, SX.evNew, SX.evStore, SX.env0, cfg74, Try.f74]
  refine ⟨by (unfold SX.Ob; first | trivial | omega | ((try simp only [SX.inK]); (try simp [SX.den, SX.IsU8, SX.AllP, *]); (try omega))), ?_⟩
  intro a1 w1 hr1 _
  have z1 : w.heap.size ≤ w1.heap.size := hr1.keeps.size
  refine post_call 41 [.v (.slice ad L.length cp)] hr1 (by first | exact wanted_none rfl | exact wanted_zero (hr1.env.same rfl rfl rfl rfl) rfl (by simp) | exact wanted_zero (hr1.env.same rfl rfl rfl rfl) rfl (by simp [*])) rfl (callable 41 Try.func41) (clone_ok w1 _ L (hL.below hr1.keeps.toBelow) h0 (by omega)) ?_
  rintro e2 w2 ⟨v2, rfl, hO2, hb2⟩
  refine ⟨_, rfl, ?_⟩
  have h2 := hr1.ret hb2 11 (.v v2) rfl _ (hr1.all.below hb2) (by simp) rfl
  refine seg cfg74_ok mixed PanicFree.body 1000 [] [] h2.rebase (by first | trivial | exact HpRep.nil | assumption) (by kernel_rfl) fun s_ hs_ => ?_
  simp (maxSteps := 10000000) [SX.vc, SX.stop, SX.contS, SX.sxStep, SX.stepPure, SX.guardIx, SX.evOp, SX.opd, SX.opds, SX.look, SX.putS, SX.gobs, SX.AllP, SX.leave, SX.lookT, SX.evBuiltin, cfg74]
  refine ⟨by (unfold SX.Ob; first | trivial | omega | ((try simp only [SX.inK]); (try simp [SX.den, SX.IsU8, SX.AllP, *]); (try omega))), ?_⟩
  intro a3 w3 hr3' _
  have hr3 := h2.unbase hr3'
  refine post_loop (CutLoop w (.slice ad' A.length cp') A L) A.length ⟨0, L, v2, rfl, by omega, rfl, h0, by omega, ((hO2.mono (P' := fun x => w.heap.size ≤ x) fun x _ h => by omega).keep hr3'.keeps (by simp [mutB])), hr3.re (by simp [envTo, SX.look, den]) trivial rfl rfl⟩ ?_
  rintro m a4 w4 ⟨k, out, v', rfl, hk, hj, hop, hol, hO, hr4⟩
  have z4 : w.heap.size ≤ w4.heap.size := hr4.keeps.size
  by_cases hlt : k < A.length
  · obtain ⟨b, o0, cap, u, fz, hP, hv, hrep⟩ := hA.opn hlt
    cases hv
    have hbw := SO.rep_lt hrep
    have hrep2 := SO.rep_same hrep (hr4.keeps.toBelow.block _ hbw)
    obtain ⟨x, hx⟩ : ∃ x, nth (0 : Int) A k = x := ⟨_, rfl⟩
    rw [drop_nth (d := (0 : Int)) hlt, hx, cutsS] at hj
    have h5 := (hr4.top 12 (.sl 0 b o0 0 A.length cp' 1) rfl (by simp [den])).see _ (HpAll.one hrep2)
    refine seg cfg74_ok mixed PanicFree.body 1000 [true] [] h5.rebase (by first | trivial | exact HpRep.nil | assumption) (by kernel_rfl) fun s_ hs_ => ?_
    simp (maxSteps := 10000000) [SX.vc, SX.stop, SX.contS, SX.contB, SX.sxStep, SX.stepPure, SX.stepNew, SX.stepStore, SX.guardIx, SX.evOp, SX.opd, SX.look, SX.putS, SX.gobs, SX.AllP, SX.leave, SX.lookT, SX.evBin, SX.evInt, SX.evLoad, SX.shapeUp, SX.evIndexAddr, SX.evNew, SX.evStore, SX.TD.isAgg, cfg74, intC, hx]
    refine ⟨by (unfold SX.Ob; first | trivial | omega | ((try simp only [SX.inK]); (try simp [SX.den, SX.IsU8, SX.AllP, *]); (try omega))), ?_⟩
    intro a6 w6 hr6' _
    have hr6 := h5.unbase hr6'
    have hO6 := hO.keep hr6'.keeps (by simp [mutB])
    have z6 : w.heap.size ≤ w6.heap.size := hr6.keeps.size
    refine post_call 71 [.v v', .v (.int .i64 x)] hr6 (by first | exact wanted_none rfl | exact wanted_zero (hr6.env.same rfl rfl rfl rfl) rfl (by simp) | exact wanted_zero (hr6.env.same rfl rfl rfl rfl) rfl (by simp [*])) rfl (callable 71 Try.func71) (find_ok w6 v' out x hO6.rd (by omega)) ?_
    rintro e7 w7 ⟨i, rfl, hi, hb7⟩
    refine ⟨_, rfl, ?_⟩
    have h7 := hr6.ret hb7 20 (.v (.int .i64 i)) rfl _ (hr6.all.below hb7) (by simp) rfl
    have hO7 := hO6.below hb7
    have z7 : w.heap.size ≤ w7.heap.size := h7.keeps.size
    have fin : ∀ (out2 : List Spn) (v2 : Value) (a8 : Act) (w8 : World), cutS x out = out2 → OwP (fun z => w.heap.size ≤ z) w8 v2 out2 → ∀ (st : St), RepX (frame0 w) st a8 w8 → True := fun _ _ _ _ _ _ _ _ => trivial
    clear fin
    rcases hi with ⟨q, rfl, hq, hin, hno⟩ | ⟨rfl, hno⟩
    rotate_left
    · have hc := cutS_no hno
      refine seg cfg74_ok mixed PanicFree.body 1000 [true] [(23, true)] h7.rebase (by first | trivial | exact HpRep.nil | assumption) (by kernel_rfl) fun s_ hs_ => ?_
      simp (maxSteps := 10000000) [SX.vc, SX.stop, SX.contS, SX.contB, SX.contW, SX.sxStep, SX.stepPure, SX.guardIx, SX.evOp, SX.opd, SX.look, SX.putS, SX.gobs, SX.AllP, SX.leave, SX.lookB, SX.evBin, SX.evInt, SX.arith, SX.evPick, SX.popTo, SX.cnd, Go.undef, cfg74]
      refine ⟨by (unfold SX.Ob; first | trivial | omega | ((try simp only [SX.inK]); (try simp [SX.den, SX.IsU8, SX.AllP, *]); (try omega))), ?_⟩
      intro a8 w8 hr8' _
      have hr8 := h7.unbase hr8'
      exact post_rnd (A.length - (k + 1)) (by omega) ⟨k + 1, out, v', rfl, by omega, by rw [← hj, hc], hop, by omega, hO7.keep hr8'.keeps (by simp [mutB]), hr8.re (by simp [envTo, SX.look, den]) trivial rfl rfl⟩
    obtain ⟨b', N, cap', u', row, hP', hv', hc0, hc1, hc2, hrep', hrow⟩ := hO7.opn hq
    cases hv'
    obtain ⟨y, hy⟩ : ∃ y, nth spn0 out q = y := ⟨_, rfl⟩
    have hrq : row q = [.v (.int .i64 y.fr), .v (.int .i64 y.to), .v (.int .i64 y.ow), .v (.int .i64 y.ep)] := by rw [hrow q hq, hy]; rfl
    have hc := cutS_at hq hin hno
    rw [hy] at hc
    have hq0 : ¬ ((q : Int) < 0) := by omega
    have hqN : q < N := by omega
    have h8 := (h7.top 5 (.sl 0 b' 0 0 out.length cap' 4) rfl (by simp [den])).see [(b', true, .arr 0 N row 4 u' (0, 0))] ⟨⟨hrep', fun _ => .inl hP', by simp⟩, trivial⟩
    by_cases hyx : y.fr = x
    · rw [if_pos hyx] at hc
      refine seg cfg74_ok mixed PanicFree.body 1000 [true] [(23, false)] h8.rebase (by first | trivial | exact HpRep.nil | assumption) (by kernel_rfl) fun s_ hs_ => ?_
      simp (maxSteps := 10000000) [SX.vc, SX.stop, SX.contS, SX.contB, SX.contW, SX.sxStep, SX.stepPure, SX.stepNew, SX.stepStore, SX.guardIx, SX.evOp, SX.opd, SX.opds, SX.look, SX.putS, SX.gobs, SX.AllP, SX.leave, SX.lookB, SX.lookT, SX.evBin, SX.evInt, SX.arith, SX.evLoad, SX.shapeUp, SX.evFieldAddr, SX.evIndexAddr, SX.cellsV, SX.evNew, SX.evStore, SX.spliceL, SX.SV.cells, SX.evPick, SX.popTo, SX.cnd, SX.TD.isAgg, SX.NotAgg, Go.Value.cells, cfg74, hq0, hrq, hyx]
      refine ⟨by (unfold SX.Ob; first | trivial | omega | ((try simp only [SX.inK]); (try simp [SX.den, SX.IsU8, SX.AllP, *]); (try omega))), ?_⟩
      intro a9 w9 hr9' _
      have hr9 := h8.unbase hr9'
      exact post_rnd (A.length - (k + 1)) (by omega) ⟨k + 1, out, _, rfl, by omega, by rw [← hj, hc], hop, by omega, .inr ⟨b', N, cap', u', row, hP', rfl, hc0, hc1, hc2, hr9.all.1.1, hrow⟩, hr9.re (by simp [envTo, SX.look, den]) trivial rfl rfl⟩
    · rw [if_neg hyx] at hc
      refine seg cfg74_ok mixed PanicFree.body 1000 [false] [(23, false)] h8.rebase (by first | trivial | exact HpRep.nil | assumption) (by kernel_rfl) fun sN hsN => ?_
      simp (maxSteps := 10000000) [SX.vc, SX.stop, SX.contS, SX.contB, SX.contW, SX.sxStep, SX.stepPure, SX.stepNew, SX.stepStore, SX.guardIx, SX.evOp, SX.opd, SX.opds, SX.look, SX.putS, SX.gobs, SX.AllP, SX.leave, SX.lookB, SX.lookT, SX.evBin, SX.evInt, SX.arith, SX.evLoad, SX.shapeUp, SX.evFieldAddr, SX.evIndexAddr, SX.cellsV, SX.evNew, SX.evStore, SX.spliceL, SX.SV.cells, SX.evPick, SX.popTo, SX.cnd, SX.TD.isAgg, SX.NotAgg, Go.Value.cells, cfg74, hq0, hrq, hyx]
      refine ⟨by (unfold SX.Ob; first | trivial | omega | ((try simp only [SX.inK]); (try simp [SX.den, SX.IsU8, SX.AllP, *]); (try omega))), ?_⟩
      intro a9 w9 hr9' _
      have hr9 := h8.unbase hr9'
      have hbw7 := SO.rep_lt hrep'
      have hO9 : OwP (fun z => z = b') w9 (.slice (some ⟨b', 0, none⟩) out.length cap') (out.set q { y with to := x }) := .inr ⟨b', N, cap', u', _, rfl, by simp, hc0, by simpa using hc1, hc2, hr9.all.1.1, fun j hj => (by
        simp only [List.length_set] at hj
        unfold setRow
        by_cases hjq : j = q
        · subst hjq
          rw [if_pos rfl, nth_lt (by simpa using hj)]
          simp [spnC]
        · rw [if_neg hjq, hrow j hj, nth_lt hj, nth_lt (by simpa using hj), List.getElem_set_ne (by omega)])⟩
      have hins := insert_ok w9 _ _ hO9 (q + 1) (by simpa using hop) (by simp; omega) (by simp; omega) (sN + 1) 50 { y with fr := x } (rep_arr_sub hr9.all.2.2.1.1 (Nat.le_refl _) (fun j hj => by
        obtain rfl : j = 0 := by omega
        simp [spnC])) (by omega)
      refine post_call 90 [.sl 0 b' 0 0 out.length cap' 4, .v (.int .i64 ((q : Int) + 1)), .sl 2 (sN + 1) 0 0 1 1 4] hr9 (wanted_none rfl) rfl (callable 90 Try.func90) hins ?_
      rintro e10 w10 ⟨V, B, rfl, hO10, hB, hk10⟩
      refine ⟨_, rfl, ?_⟩
      have z9 : w.heap.size ≤ w9.heap.size := hr9.keeps.size
      have hr10 := hr9.retK hk10 (fun z hz => .inl (by
        have := (hB z hz).1
        show w.heap.size ≤ z
        omega)) 48 (.v V) rfl [] trivial (by simp) rfl
      refine seg cfg74_ok mixed PanicFree.body 1000 [] [] hr10.rebase (by first | trivial | exact HpRep.nil | assumption) (by kernel_rfl) fun s_ hs_ => ?_
      simp (maxSteps := 10000000) [SX.vc, SX.stop, SX.contS, SX.contB, SX.contW, SX.sxStep, SX.stepPure, SX.guardIx, SX.evOp, SX.opd, SX.look, SX.putS, SX.gobs, SX.AllP, SX.leave, SX.lookB, SX.evBin, SX.evInt, SX.arith, SX.evPick, SX.popTo, SX.cnd, Go.undef, cfg74]
      refine ⟨by (unfold SX.Ob; first | trivial | omega | ((try simp only [SX.inK]); (try simp [SX.den, SX.IsU8, SX.AllP, *]); (try omega))), ?_⟩
      intro a11 w11 hr11' _
      have hr11 := hr10.unbase hr11'
      exact post_rnd (A.length - (k + 1)) (by omega) ⟨k + 1, _, V, rfl, by omega, by rw [← hj, hc], by simp; omega, by simp; omega, ((hO10.mono (P' := fun z => w.heap.size ≤ z) fun z _ h => by rcases h with h | h <;> omega).keep hr11'.keeps (by simp [mutB])), hr11.re (by simp [envTo, SX.look, den]) trivial rfl rfl⟩
  · obtain rfl : k = A.length := by omega
    refine seg cfg74_ok mixed PanicFree.body 1000 [false] [] hr4.rebase (by first | trivial | exact HpRep.nil | assumption) (by kernel_rfl) fun s_ hs_ => ?_
    simp (maxSteps := 10000000) [SX.vc, SX.stop, SX.contS, SX.contB, SX.contW, SX.sxStep, SX.stepPure, SX.guardIx, SX.evOp, SX.opd, SX.look, SX.putS, SX.gobs, SX.AllP, SX.leave, SX.evBin, SX.evInt, SX.popTo, cfg74]
    refine ⟨by (unfold SX.Ob; first | trivial | omega | ((try simp only [SX.inK]); (try simp [SX.den, SX.IsU8, SX.AllP, *]); (try omega))), ?_⟩
    intro a6 w6 hr6' _
    have hr6 := hr4.unbase hr6'
    refine post_retn (end1 hr6 rfl rfl ⟨_, rfl, ?_, hr6.keeps.toBelow⟩).1
    rw [← hj, List.drop_length, cutsS]
    exact hO.keep hr6'.keeps (by simp [mutB])
end Go.Proofs.S7
namespace Go.Proofs.S7
open Go Go.Proofs Go.SX Go.RowKit
theorem chkS_nth : ∀ {L : List Spn} {last : Int} {j : Nat}, ChkS last L → j < L.length → (nth spn0 L j).fr < (nth spn0 L j).to ∧ last ≤ (nth spn0 L j).fr ∧ MayO (nth spn0 L j).ow (nth spn0 L j).ep
  | [], _, j, _, h => by simp at h
  | s :: r, last, 0, h, _ => ⟨h.2.1, by have := h.1; show last ≤ s.fr; omega, h.2.2.1⟩
  | s :: r, last, j + 1, h, hj => by
    obtain ⟨h1, h2, h3⟩ := chkS_nth (j := j) h.2.2.2 (by simpa using hj)
    have a1 := h.1
    have a2 := h.2.1
    exact ⟨h1, by show last ≤ (nth spn0 r j).fr; omega, h3⟩
theorem chkS_lt : ∀ {L : List Spn} {last : Int} {i j : Nat}, ChkS last L → i < j → j < L.length → (nth spn0 L i).to ≤ (nth spn0 L j).fr
  | [], _, _, j, _, _, h => by simp at h
  | s :: r, last, 0, j + 1, h, _, hj => (chkS_nth (j := j) h.2.2.2 (by simpa using hj)).2.1
  | s :: r, last, i + 1, j + 1, h, hij, hj => chkS_lt (L := r) (i := i) (j := j) h.2.2.2 (by omega) (by simpa using hj)
theorem cutS_facts (a : Int) : ∀ {L : List Spn} {last : Int}, ChkS last L → ChkS last (cutS a L) ∧ endS last (cutS a L) = endS last L ∧ ∀ b t, HasS (cutS a L) b t ↔ HasS L b t
  | [], _, h => ⟨h, rfl, fun _ _ => Iff.rfl⟩
  | s :: r, last, h => by
    unfold cutS
    by_cases hi : InS a s
    · rw [if_pos hi]
      by_cases hf : s.fr = a
      · rw [if_pos hf]
        exact ⟨h, rfl, fun _ _ => Iff.rfl⟩
      · rw [if_neg hf]
        have h1 := hi.1
        have h2 := hi.2
        refine ⟨⟨h.1, by show s.fr < a; omega, h.2.2.1, rfl, h2, h.2.2.1, h.2.2.2⟩, rfl, fun b t => ?_⟩
        rw [hasS_cons, hasS_cons, hasS_cons, ← or_assoc]
        refine or_congr ?_ Iff.rfl
        unfold InS
        simp only
        constructor
        · rintro (⟨⟨a1, a2⟩, a3⟩ | ⟨⟨a1, a2⟩, a3⟩)
          · exact ⟨⟨a1, by omega⟩, a3⟩
          · exact ⟨⟨by omega, a2⟩, a3⟩
        · rintro ⟨⟨a1, a2⟩, a3⟩
          rcases Int.lt_or_le b a with h' | h'
          · exact .inl ⟨⟨a1, h'⟩, a3⟩
          · exact .inr ⟨⟨h', a2⟩, a3⟩
    · rw [if_neg hi]
      obtain ⟨i1, i2, i3⟩ := cutS_facts a h.2.2.2
      exact ⟨⟨h.1, h.2.1, h.2.2.1, i1⟩, i2, fun b t => by rw [hasS_cons, hasS_cons, i3]⟩
theorem cutS_sub (a : Int) : ∀ {L : List Spn} {s : Spn}, s ∈ cutS a L → ∃ r ∈ L, r.fr ≤ s.fr ∧ s.to ≤ r.to ∧ s.ow = r.ow ∧ s.ep = r.ep
  | [], s, h => by simp [cutS] at h
  | x :: r, s, h => by
    unfold cutS at h
    split at h
    · rename_i hi
      have h1 := hi.1
      have h2 := hi.2
      split at h
      · exact ⟨s, h, Int.le_refl _, Int.le_refl _, rfl, rfl⟩
      · rcases List.mem_cons.1 h with rfl | h
        · exact ⟨x, by simp, Int.le_refl _, by show a ≤ x.to; omega, rfl, rfl⟩
        · rcases List.mem_cons.1 h with rfl | h
          · exact ⟨x, by simp, h1, Int.le_refl _, rfl, rfl⟩
          · exact ⟨s, by simp [h], Int.le_refl _, Int.le_refl _, rfl, rfl⟩
    · rcases List.mem_cons.1 h with rfl | h
      · exact ⟨_, by simp, Int.le_refl _, Int.le_refl _, rfl, rfl⟩
      · obtain ⟨y, hy, h'⟩ := cutS_sub a h
        exact ⟨y, by simp [hy], h'⟩
def Apart (a : Int) (L : List Spn) : Prop := ∀ s ∈ L, ¬ (s.fr < a ∧ a < s.to)
theorem cutS_apart (a : Int) : ∀ {L : List Spn} {last : Int}, ChkS last L → Apart a (cutS a L)
  | [], _, _ => by intro s h; simp [cutS] at h
  | x :: r, last, h => by
    have low : ∀ y ∈ r, x.to ≤ y.fr := fun y hy => by
      obtain ⟨j, hj, rfl⟩ := List.mem_iff_getElem.1 hy
      have := (chkS_nth (j := j) h.2.2.2 hj).2.1
      rwa [nth_lt hj] at this
    intro s hs
    unfold cutS at hs
    split at hs
    · rename_i hi
      have h2 := hi.2
      split at hs
      · rename_i hf
        rcases List.mem_cons.1 hs with rfl | hs
        · omega
        · have := low s hs
          omega
      · rcases List.mem_cons.1 hs with rfl | hs
        · show ¬ (x.fr < a ∧ a < a); omega
        · rcases List.mem_cons.1 hs with rfl | hs
          · show ¬ (a < a ∧ a < x.to); omega
          · have := low s hs
            omega
    · rename_i hi
      rcases List.mem_cons.1 hs with rfl | hs
      · intro hc
        exact hi ⟨by omega, hc.2⟩
      · exact cutS_apart a h.2.2.2 s hs
theorem Apart.cut {a c : Int} {L : List Spn} (h : Apart c L) : Apart c (cutS a L) := by
  intro s hs
  obtain ⟨r, hr, h1, h2, _⟩ := cutS_sub a hs
  have := h r hr
  omega
theorem cutsS_facts : ∀ (A : List Int) {L : List Spn} {last : Int}, ChkS last L → ChkS last (cutsS A L) ∧ endS last (cutsS A L) = endS last L ∧ (∀ b t, HasS (cutsS A L) b t ↔ HasS L b t) ∧ (∀ c, Apart c L → Apart c (cutsS A L)) ∧ ∀ a ∈ A, Apart a (cutsS A L)
  | [], L, last, h => ⟨h, rfl, fun _ _ => Iff.rfl, fun _ h => h, fun _ h => by simp at h⟩
  | a :: A, L, last, h => by
    obtain ⟨h1, h2, h3⟩ := cutS_facts a h
    obtain ⟨i1, i2, i3, i4, i5⟩ := cutsS_facts A h1
    refine ⟨i1, by rw [cutsS, i2, h2], fun b t => by rw [cutsS, i3, h3], fun c hc => i4 c hc.cut, fun c hc => ?_⟩
    rcases List.mem_cons.1 hc with rfl | hc
    · exact i4 _ (cutS_apart _ h)
    · exact i5 c hc
theorem cutsS_len : ∀ (A : List Int) (L : List Spn), (cutsS A L).length ≤ L.length + A.length
  | [], L => by simp [cutsS]
  | a :: A, L => by
    have h1 := cutsS_len A (cutS a L)
    have h2 := cutS_len a L
    simp only [cutsS, List.length_cons]
    omega
def Giv (f t : Int) (s : Spn) : Prop := f ≤ s.fr ∧ s.to ≤ t
instance (f t : Int) (s : Spn) : Decidable (Giv f t s) := by unfold Giv; infer_instance
def giv (f t o e : Int) (s : Spn) : Spn := if Giv f t s then { s with ow := o, ep := e } else s
def Old (f t o e : Int) (s : Spn) : Prop := Giv f t s ∧ o ≠ -1 ∧ s.ow ≠ -1 ∧ e ≤ s.ep
instance (f t o e : Int) (s : Spn) : Decidable (Old f t o e s) := by unfold Old; infer_instance
def oldS (f t o e : Int) (L : List Spn) : Bool := L.any fun s => decide (Old f t o e s)
def giveE (L : List Spn) (f t o e : Int) : Int := if Within L f t ∧ MayO o e then (if oldS f t o e (cutsS [f, t] L) then 61 else 0) else 1
def giveL (L : List Spn) (f t o e : Int) : List Spn := if giveE L f t o e = 0 then joinS ((cutsS [f, t] L).map (giv f t o e)) else []
theorem oldS_iff {f t o e : Int} {L : List Spn} : oldS f t o e L = true ↔ ∃ s ∈ L, Old f t o e s := by simp [oldS]
end Go.Proofs.S7
namespace Go.Proofs.S7
open Go Go.Proofs Go.SX Go.RowKit
def GiveR (w : World) (L : List Spn) (f t o e : Int) (ev : Ending) (w' : World) : Prop :=
  ∃ v', ev = .returned (den (.tu [.v v', .v (.int .i64 (giveE L f t o e))])) ∧ OwP (fun x => w.heap.size ≤ x) w' v' (giveL L f t o e) ∧ Below w.heap.size w w'
structure GivF (C : List Spn) (f t : Int) (p : Nat) : Prop where
  pre : ∀ j, j < p → ¬ f ≤ (nth spn0 C j).fr
  mid : ∀ j, p ≤ j → j < C.length → f ≤ (nth spn0 C j).fr
  post : ∀ i j, i ≤ j → j < C.length → t < (nth spn0 C i).to → t < (nth spn0 C j).to
theorem givF {C : List Spn} {f t : Int} {p : Nat} (hC : ChkS 0 C) (hA : Apart f C) (hp : p < C.length) (hin : InS f (nth spn0 C p)) : GivF C f t p := by
  have hf : (nth spn0 C p).fr = f := by
    have h1 := hA _ (nth_mem (d := spn0) hp)
    have h2 := hin.1
    have h3 := hin.2
    omega
  refine ⟨fun j hj h => ?_, fun j hj hl => ?_, fun i j hij hl h => ?_⟩
  · have h1 := chkS_lt hC hj hp
    have h2 := (chkS_nth hC (show j < C.length by omega)).1
    omega
  · rcases Nat.lt_or_ge p j with h | h
    · have h1 := chkS_lt hC h hl
      have h2 := (chkS_nth hC hp).1
      omega
    · obtain rfl : j = p := by omega
      omega
  · rcases Nat.lt_or_ge i j with h' | h'
    · have h1 := chkS_lt hC h' hl
      have h2 := (chkS_nth hC hl).1
      omega
    · obtain rfl : i = j := by omega
      exact h
def GLoop (w : World) (C : List Spn) (f t o e : Int) (p : Nat) (m : Nat) (a : Act) (w' : World) : Prop :=
  ∃ (k : Nat) (v' : Value), m = C.length - k ∧ p ≤ k ∧ k ≤ C.length ∧ (∀ j, j < k → ¬ Old f t o e (nth spn0 C j)) ∧ OwP (fun x => w.heap.size ≤ x) w' v' ((C.take k).map (giv f t o e) ++ C.drop k) ∧
    RepX (frame0 w) ⟨[(13, 0, .v (.int .i64 k)), (12, 0, .v v'), (2, 0, .v (.int .i64 t)), (3, 0, .v (.int .i64 o)), (4, 0, .v (.int .i64 e)), (10, 0, .v (.slice none 0 0)), (11, 0, .v (.int .i64 0))], [], 0, 0, 79, [], [], []⟩ a w'
theorem nth_map {α β : Type} {d : α} {d' : β} {f : α → β} {L : List α} {j : Nat} (h : j < L.length) : nth d' (L.map f) j = f (nth d L j) := by
  rw [nth_lt (by simpa using h), nth_lt h]; simp
theorem nth_mix {C : List Spn} {g : Spn → Spn} {k j : Nat} (hk : k ≤ C.length) (hj : j < C.length) : nth spn0 ((C.take k).map g ++ C.drop k) j = if j < k then g (nth spn0 C j) else nth spn0 C j := by
  by_cases h : j < k
  · rw [if_pos h, nth_append_left (by simp; omega), nth_map (d := spn0) (by simp; omega)]
    congr 1
    have := nth_part (d := spn0) (L := C) (i := 0) (n := k) h
    simpa using this
  · rw [if_neg h]
    obtain ⟨q, rfl⟩ : ∃ q, j = k + q := ⟨j - k, by omega⟩
    have e : k + q = ((C.take k).map g).length + q := by simp; omega
    rw [e, nth_append_right]
    simp [nth]
    congr 2
    omega
theorem setRow_same {row : Nat → List SV} {k : Nat} {x : List SV} : setRow row k x k = x := by simp [setRow]
theorem setRow_two {row : Nat → List SV} {k : Nat} {x y : List SV} : setRow (setRow row k x) k y = setRow row k y := by
  funext j
  unfold setRow
  split <;> rfl
theorem mix_len {C : List Spn} {g : Spn → Spn} {k : Nat} : ((C.take k).map g ++ C.drop k).length = C.length := by simp; omega
theorem RdI.lit2 {w : World} {s : Nat} {row : Nat → List SV} {u : TypeId} {fz : Nat × Nat} {x y : Int} (h : (SO.arr 0 2 row 1 u fz).rep w s) (h0 : denL (row 0) = denL (intC x)) (h1 : denL (row 1) = denL (intC y)) :
    RdI (fun _ => True) w (.slice (some ⟨s, 0, none⟩) 2 2) [x, y] :=
  .inr ⟨by simp, s, 0, 2, u, fz, trivial, rfl, rep_arr_sub h (Nat.le_refl _) (fun j hj => by
    have : j = 0 ∨ j = 1 := by simp at hj; omega
    rcases this with rfl | rfl
    · exact h0
    · exact h1), Nat.le_refl _⟩
theorem inS_some : ∀ {L : List Spn} {last b : Int}, ChkS last L → last ≤ b → b < endS last L → ∃ j, j < L.length ∧ InS b (nth spn0 L j)
  | [], last, b, _, h1, h2 => by simp only [endS] at h2; omega
  | s :: r, last, b, h, h1, h2 => by
    have a1 := h.1
    rcases Int.lt_or_le b s.to with h' | h'
    · exact ⟨0, by simp, by show s.fr ≤ b; omega, h'⟩
    · obtain ⟨j, hj, hi⟩ := inS_some (L := r) h.2.2.2 h' h2
      exact ⟨j + 1, by simpa using hj, hi⟩
set_option maxRecDepth 100000 in
set_option maxHeartbeats 16000000 in
theorem Give_ok {P : Nat → Prop} (w : World) (v : Value) (L : List Spn) (f t o e : Int) (hL : RdP P w v L) (hn : L.length ≤ 100000) : Calls Try.prog 58 (denL [.v v, .v (.int .i64 f), .v (.int .i64 t), .v (.int .i64 o), .v (.int .i64 e)]).toArray w (GiveR w L f t o e) := by
  obtain ⟨ad, cp, rfl⟩ := hL.slice
  refine enter (F := frame0 w) Try.func58 rfl [.v (.slice ad L.length cp), .v (.int .i64 f), .v (.int .i64 t), .v (.int .i64 o), .v (.int .i64 e)] [] (by simp [Try.f58]) trivial (keeps0 w) fun a hr => ?_
  refine seg cfg58_ok mixed PanicFree.body 1000 [] [] hr (by first | trivial | exact HpRep.nil | assumption) (by kernel_rfl) fun s_ hs_ => ?_
  simp (maxSteps := 10000000) [SX.vc, SX.stop, SX.contS, SX.sxStep, SX.stepPure, SX.stepNew, SX.stepStore, SX.guardIx, SX.evOp, SX.opd, SX.look, SX.putS, SX.gobs, SX.AllP, SX.leave, SX.evNew, SX.evStore, SX.env0, cfg58, Try.f58]
  refine ⟨by (unfold SX.Ob; first | trivial | omega | ((try simp only [SX.inK]); (try simp [SX.den, SX.IsU8, SX.AllP, *]); (try omega))), ?_⟩
  intro a1 w1 hr1 _
  refine post_call 70 [.v (.slice ad L.length cp), .v (.int .i64 f), .v (.int .i64 t)] hr1 (by first | exact wanted_none rfl | exact wanted_zero (hr1.env.same rfl rfl rfl rfl) rfl (by simp) | exact wanted_zero (hr1.env.same rfl rfl rfl rfl) rfl (by simp [*])) rfl (callable 70 Try.func70) (within_ok w1 _ L f t (hL.below hr1.keeps.toBelow) (by omega)) ?_
  rintro e2 w2 ⟨rfl, hb2⟩
  refine ⟨_, rfl, ?_⟩
  have h2 := hr1.ret hb2 17 (.v (.bool (decide (Within L f t)))) rfl _ (hr1.all.below hb2) (by simp) rfl
  by_cases hW : Within L f t
  rotate_left
  · have hE : giveE L f t o e = 1 := if_neg fun h => hW h.1
    have hG : giveL L f t o e = [] := by unfold giveL; rw [hE]; rfl
    refine seg cfg58_ok mixed PanicFree.body 1000 [true] [(19, true)] h2 (by first | trivial | exact HpRep.nil | assumption) (by kernel_rfl) fun s_ hs_ => ?_
    simp (maxSteps := 10000000) [SX.vc, SX.stop, SX.contS, SX.contB, SX.sxStep, SX.stepPure, SX.guardIx, SX.evOp, SX.opd, SX.look, SX.putS, SX.gobs, SX.AllP, SX.leave, SX.lookB, SX.evUn, SX.evPick, SX.cnd, Go.undef, cfg58, hW]
    refine ⟨by (unfold SX.Ob; first | trivial | omega | ((try simp only [SX.inK]); (try simp [SX.den, SX.IsU8, SX.AllP, *]); (try omega))), ?_⟩
    intro a3 w3 hr3 _
    exact post_retn (end2 hr3 rfl rfl rfl ⟨.slice none 0 0, by rw [hE]; simp [den, denL], by rw [hG]; exact OwS.nil, hr3.keeps.toBelow⟩).1
  refine seg cfg58_ok mixed PanicFree.body 1000 [] [(19, false)] h2 (by first | trivial | exact HpRep.nil | assumption) (by kernel_rfl) fun s_ hs_ => ?_
  simp (maxSteps := 10000000) [SX.vc, SX.stop, SX.contS, SX.sxStep, SX.stepPure, SX.stepNew, SX.stepStore, SX.guardIx, SX.evOp, SX.opd, SX.look, SX.putS, SX.gobs, SX.AllP, SX.lookB, SX.evNew, SX.evStore, SX.evUn, SX.cnd, hW]
  refine ⟨by (unfold SX.Ob; first | trivial | omega | ((try simp only [SX.inK]); (try simp [SX.den, SX.IsU8, SX.AllP, *]); (try omega))), ?_⟩
  intro a3 w3 hr3 _
  refine post_call 73 [.v (.int .i64 o), .v (.int .i64 e)] hr3 (by first | exact wanted_none rfl | exact wanted_zero (hr3.env.same rfl rfl rfl rfl) rfl (by simp) | exact wanted_zero (hr3.env.same rfl rfl rfl rfl) rfl (by simp [*])) rfl (callable 73 Try.func73) (may_ok w3 o e) ?_
  rintro e4 w4 ⟨rfl, hb4⟩
  refine ⟨_, rfl, ?_⟩
  have h4 := hr3.ret hb4 22 (.v (.bool (decide (MayO o e)))) rfl _ (hr3.all.below hb4) (by simp) rfl
  by_cases hM' : MayO o e
  rotate_left
  · have hE : giveE L f t o e = 1 := if_neg fun h => hM' h.2
    have hG : giveL L f t o e = [] := by unfold giveL; rw [hE]; rfl
    refine seg cfg58_ok mixed PanicFree.body 1000 [true] [(19, false)] h4 (by first | trivial | exact HpRep.nil | assumption) (by kernel_rfl) fun s_ hs_ => ?_
    simp (maxSteps := 10000000) [SX.vc, SX.stop, SX.contS, SX.contB, SX.sxStep, SX.stepPure, SX.guardIx, SX.evOp, SX.opd, SX.look, SX.putS, SX.gobs, SX.AllP, SX.leave, SX.lookB, SX.evUn, SX.evPick, SX.cnd, cfg58, hM']
    refine ⟨by (unfold SX.Ob; first | trivial | omega | ((try simp only [SX.inK]); (try simp [SX.den, SX.IsU8, SX.AllP, *]); (try omega))), ?_⟩
    intro a5 w5 hr5 _
    exact post_retn (end2 hr5 rfl rfl rfl ⟨.slice none 0 0, by rw [hE]; simp [den, denL], by rw [hG]; exact OwS.nil, hr5.keeps.toBelow⟩).1
  refine seg cfg58_ok mixed PanicFree.body 1000 [false] [(19, false)] h4 (by first | trivial | exact HpRep.nil | assumption) (by kernel_rfl) fun sA hsA => ?_
  simp (maxSteps := 10000000) [SX.vc, SX.stop, SX.contS, SX.contB, SX.sxStep, SX.stepPure, SX.stepNew, SX.stepStore, SX.guardIx, SX.evOp, SX.opd, SX.opds, SX.look, SX.putS, SX.gobs, SX.AllP, SX.leave, SX.lookB, SX.lookT, SX.evNew, SX.evStore, SX.SV.cells, SX.evUn, SX.evPick, SX.cnd, cfg58, hM']
  refine ⟨by (unfold SX.Ob; first | trivial | omega | ((try simp only [SX.inK]); (try simp [SX.den, SX.IsU8, SX.AllP, *]); (try omega))), ?_⟩
  intro a5 w5 hr5 _
  have hC := hW.1
  obtain ⟨c1, c2, c3, c4, c5⟩ := cutsS_facts [f, t] hC.1
  have hlen := cutsS_len [f, t] L
  obtain ⟨C, hCd⟩ : ∃ C, cutsS [f, t] L = C := ⟨_, rfl⟩
  have hAI : RdI (fun _ => True) w5 (.slice (some ⟨sA, 0, none⟩) 2 2) [f, t] := RdI.lit2 hr5.all.1.1 (by simp [intC]) (by simp [intC])
  refine post_call 74 [.v (.slice ad L.length cp), .sl 0 sA 0 0 2 2 1] hr5 (by first | exact wanted_none rfl | exact wanted_zero (hr5.env.same rfl rfl rfl rfl) rfl (by simp) | exact wanted_zero (hr5.env.same rfl rfl rfl rfl) rfl (by simp [*])) rfl (callable 74 Try.func74) (cut_ok w5 _ _ L [f, t] (hL.below hr5.keeps.toBelow) hAI hC.ne (by omega) (by simp)) ?_
  rintro e6 w6 ⟨v6, rfl, hO6, hb6⟩
  refine ⟨_, rfl, ?_⟩
  have h6 := hr5.ret hb6 29 (.v v6) rfl _ (hr5.all.below hb6) (by simp) rfl
  rw [hCd] at hO6 c1 c2 c3 c4 c5 hlen
  simp only [List.length_cons, List.length_nil] at hlen
  have z5 : w.heap.size ≤ w5.heap.size := hr5.keeps.size
  have h6 := h6.see [] trivial
  refine seg cfg58_ok mixed PanicFree.body 1000 [] [] h6.rebase (by first | trivial | exact HpRep.nil | assumption) (by kernel_rfl) fun s_ hs_ => ?_
  simp (maxSteps := 10000000) [SX.vc, SX.stop, SX.contS, SX.sxStep, SX.stepPure, SX.stepNew, SX.stepStore, SX.guardIx, SX.evOp, SX.opd, SX.look, SX.putS, SX.gobs, SX.AllP, SX.leave, SX.evNew, SX.evStore, cfg58]
  refine ⟨by (unfold SX.Ob; first | trivial | omega | ((try simp only [SX.inK]); (try simp [SX.den, SX.IsU8, SX.AllP, *]); (try omega))), ?_⟩
  intro a7 w7 hr7' _
  have hr7 := h6.unbase hr7'
  have hO7 := (hO6.mono (P' := fun x => w.heap.size ≤ x) fun x _ h => by omega).keep hr7'.keeps (by simp [mutB])
  refine post_call 71 [.v v6, .v (.int .i64 f)] hr7 (by first | exact wanted_none rfl | exact wanted_zero (hr7.env.same rfl rfl rfl rfl) rfl (by simp) | exact wanted_zero (hr7.env.same rfl rfl rfl rfl) rfl (by simp [*])) rfl (callable 71 Try.func71) (find_ok w7 v6 C f hO7.rd (by omega)) ?_
  rintro e8 w8 ⟨i, rfl, hi, hb8⟩
  refine ⟨_, rfl, ?_⟩
  have h8 := hr7.ret hb8 32 (.v (.int .i64 i)) rfl _ (hr7.all.below hb8) (by simp) rfl
  obtain ⟨j0, hj0, hin0⟩ := inS_some c1 hW.2.1 (by rw [c2]; have := hW.2.2.1; have := hW.2.2.2; omega)
  rcases hi with ⟨p, rfl, hp, hin, hno⟩ | ⟨rfl, hno⟩
  rotate_left
  · exact absurd hin0 (hno j0 hj0)
  have G : GivF C f t p := givF c1 (c5 f (by simp)) hp hin
  have hO8 := hO7.below hb8
  refine seg cfg58_ok mixed PanicFree.body 1000 [] [] h8.rebase (by first | trivial | exact HpRep.nil | assumption) (by kernel_rfl) fun s_ hs_ => ?_
  simp (maxSteps := 10000000) [SX.vc, SX.stop, SX.contS, SX.sxStep, SX.stepPure, SX.stepNew, SX.stepStore, SX.guardIx, SX.evOp, SX.opd, SX.look, SX.putS, SX.gobs, SX.AllP, SX.leave, SX.evNew, SX.evStore, cfg58]
  refine ⟨by (unfold SX.Ob; first | trivial | omega | ((try simp only [SX.inK]); (try simp [SX.den, SX.IsU8, SX.AllP, *]); (try omega))), ?_⟩
  intro a9 w9 hr9' _
  have hr9 := h8.unbase hr9'
  have hgid : ∀ j, j < p → giv f t o e (nth spn0 C j) = nth spn0 C j := fun j hj => if_neg fun h => G.pre j hj h.1
  have hmix0 : (C.take p).map (giv f t o e) ++ C.drop p = C := by
    refine nth_spn (by rw [mix_len]) fun j hj => ?_
    rw [mix_len] at hj
    rw [nth_mix (by omega) hj]
    split
    · exact hgid j ‹_›
    · rfl
  refine post_loop (GLoop w C f t o e p) (C.length - p) ⟨p, v6, rfl, Nat.le_refl _, by omega, fun j hj h => G.pre j hj h.1.1, by rw [hmix0]; exact hO8.keep hr9'.keeps (by simp [mutB]), hr9.re (by simp [envTo, SX.look, den]) trivial rfl rfl⟩ ?_
  rintro m a10 w10 ⟨k, v', rfl, hpk, hk, hold, hO, hr10⟩
  have z10 : w.heap.size ≤ w10.heap.size := hr10.keeps.size
  obtain ⟨M, hM⟩ : ∃ M, (C.take k).map (giv f t o e) ++ C.drop k = M := ⟨_, rfl⟩
  have hMl : M.length = C.length := by rw [← hM, mix_len]
  rw [hM] at hO
  have hCw : cutsS [f, t] L = C := hCd
  have fin : (∀ j, k ≤ j → j < C.length → t < (nth spn0 C j).to) → giveE L f t o e = 0 ∧ giveL L f t o e = joinS M := fun h => by
    have h1 : oldS f t o e C = false := by
      rw [Bool.eq_false_iff]
      intro hc
      obtain ⟨s, hs, ho⟩ := oldS_iff.1 hc
      obtain ⟨j, hj, rfl⟩ := List.mem_iff_getElem.1 hs
      rw [← nth_lt (d := spn0) hj] at ho
      rcases Nat.lt_or_ge j k with h' | h'
      · exact hold j h' ho
      · have := h j h' hj
        have := ho.1.2
        omega
    have h2 : giveE L f t o e = 0 := by
      unfold giveE
      rw [if_pos ⟨hW, hM'⟩, hCw, h1]
      rfl
    refine ⟨h2, ?_⟩
    unfold giveL
    rw [h2, hCw, if_pos rfl, ← hM]
    congr 1
    refine nth_spn (by rw [mix_len]; simp) fun j hj => ?_
    have hj' : j < C.length := by simpa using hj
    rw [nth_mix hk hj', nth_map (d := spn0) hj']
    split
    · rfl
    · exact if_neg fun h' => by
        have := h j (by omega) hj'
        have := h'.2
        omega
  by_cases hlt : k < C.length
  · obtain ⟨b, N, cap, u, row, hP', rfl, hc0, hc1, hc2, hrep', hrow⟩ := hO.opn (show k < M.length by omega)
    obtain ⟨y, hy⟩ : ∃ y, nth spn0 C k = y := ⟨_, rfl⟩
    have hMk : nth spn0 M k = y := by rw [← hM, nth_mix hk hlt, if_neg (by omega), hy]
    have hrk : row k = [.v (.int .i64 y.fr), .v (.int .i64 y.to), .v (.int .i64 y.ow), .v (.int .i64 y.ep)] := by rw [hrow k (by omega), hMk]; rfl
    have hkN : k < N := by omega
    rw [hMl] at hr10 hc1
    have h11 := (hr10.top 12 (.sl 0 b 0 0 C.length cap 4) rfl (by simp [den])).see [(b, true, .arr 0 N row 4 u (0, 0))] ⟨⟨hrep', fun _ => .inl hP', by simp⟩, trivial⟩
    by_cases hyt : y.to ≤ t
    rotate_left
    · obtain ⟨f1, f2⟩ := fin fun j hj hl => G.post k j hj hl (by rw [hy]; omega)
      refine seg cfg58_ok mixed PanicFree.body 1000 [false] [(37, true)] h11.rebase (by first | trivial | exact HpRep.nil | assumption) (by kernel_rfl) fun s_ hs_ => ?_
      simp (maxSteps := 10000000) [SX.vc, SX.stop, SX.contS, SX.contB, SX.contW, SX.sxStep, SX.stepPure, SX.stepNew, SX.stepStore, SX.guardIx, SX.evOp, SX.opd, SX.opds, SX.look, SX.putS, SX.gobs, SX.AllP, SX.leave, SX.lookB, SX.lookT, SX.evBuiltin, SX.evBin, SX.evInt, SX.arith, SX.evLoad, SX.shapeUp, SX.evFieldAddr, SX.evIndexAddr, SX.evNew, SX.evStore, SX.spliceL, SX.SV.cells, SX.evPick, SX.popTo, SX.cnd, SX.TD.isAgg, SX.NotAgg, Go.undef, cfg58, hrk, hyt, hlt]
      refine ⟨by (unfold SX.Ob; first | trivial | omega | ((try simp only [SX.inK]); (try simp [SX.den, SX.IsU8, SX.AllP, *]); (try omega))), ?_⟩
      intro a12 w12 hr12' _
      have hr12 := h11.unbase hr12'
      have hO12 : OwP (fun z => w.heap.size ≤ z) w12 (.slice (some ⟨b, 0, none⟩) C.length cap) M := .inr ⟨b, N, cap, u, row, hP', by rw [hMl], hc0, by omega, hc2, hr12.all.1.1, hrow⟩
      refine post_call 75 [.sl 0 b 0 0 C.length cap 4] hr12 (by first | exact wanted_none rfl | exact wanted_zero (hr12.env.same rfl rfl rfl rfl) rfl (by simp) | exact wanted_zero (hr12.env.same rfl rfl rfl rfl) rfl (by simp [*])) rfl (callable 75 Try.func75) (join_ok w12 (.slice (some ⟨b, 0, none⟩) C.length cap) M hO12.rd (by omega)) ?_
      rintro e13 w13 ⟨v13, rfl, hO13, hb13⟩
      refine ⟨_, rfl, ?_⟩
      have h13' := hr12.ret hb13 78 (.v v13) rfl _ (hr12.all.below hb13) (by simp) rfl
      have z12 : w.heap.size ≤ w12.heap.size := hr12.keeps.size
      have h13 := h13'.see [] trivial
      refine seg cfg58_ok mixed PanicFree.body 1000 [] [] h13.rebase (by first | trivial | exact HpRep.nil | assumption) (by kernel_rfl) fun s_ hs_ => ?_
      simp (maxSteps := 10000000) [SX.vc, SX.stop, SX.contS, SX.sxStep, SX.stepPure, SX.guardIx, SX.evOp, SX.opd, SX.look, SX.putS, SX.gobs, SX.AllP, SX.leave, cfg58]
      refine ⟨by (unfold SX.Ob; first | trivial | omega | ((try simp only [SX.inK]); (try simp [SX.den, SX.IsU8, SX.AllP, *]); (try omega))), ?_⟩
      intro a14 w14 hr14' _
      have hr14 := h13.unbase hr14'
      exact post_retn (end2 hr14 rfl rfl rfl ⟨v13, by rw [f1]; simp [den, denL], by rw [f2]; exact (hO13.mono (P' := fun x => w.heap.size ≤ x) fun x _ h => by omega).keep hr14'.keeps (by simp [mutB]), hr14.keeps.toBelow⟩).1
    have hgy : Giv f t y := ⟨hy ▸ G.mid k hpk hlt, hyt⟩
    have nxt : ∀ (a12 : Act) (w12 : World) (row' : Nat → List SV), ¬ Old f t o e y → (SO.arr 0 N row' 4 u (0, 0)).rep w12 b → (row' = setRow row k (spnC { y with ow := o, ep := e })) → RepX (frame0 w) ⟨[(13, 0, .v (.int .i64 ((k + 1 : Nat) : Int))), (12, 0, .v (.slice (some ⟨b, 0, none⟩) C.length cap)), (2, 0, .v (.int .i64 t)), (3, 0, .v (.int .i64 o)), (4, 0, .v (.int .i64 e)), (10, 0, .v (.slice none 0 0)), (11, 0, .v (.int .i64 0))], [], 0, 0, 79, [], [], []⟩ a12 w12 → GLoop w C f t o e p (C.length - (k + 1)) a12 w12 := fun a12 w12 row' hno hrep2 hrow2 hr12 => by
      refine ⟨k + 1, _, rfl, by omega, by omega, fun j hj => ?_, .inr ⟨b, N, cap, u, row', hP', by rw [mix_len], hc0, by rw [mix_len]; omega, hc2, hrep2, fun j hj => ?_⟩, hr12⟩
      · rcases Nat.lt_or_ge j k with h | h
        · exact hold j h
        · obtain rfl : j = k := by omega
          rw [hy]; exact hno
      · rw [mix_len] at hj
        rw [nth_mix (by omega) hj, hrow2]
        unfold setRow
        by_cases hjk : j = k
        · subst hjk
          rw [if_pos rfl, if_pos (by omega), hy, giv, if_pos hgy]
        · rw [if_neg hjk, hrow j (by omega), ← hM, nth_mix hk hj]
          by_cases hjl : j < k
          · rw [if_pos hjl, if_pos (by omega)]
          · rw [if_neg hjl, if_neg (by omega)]
    by_cases ho : o = -1
    · subst ho
      refine seg cfg58_ok mixed PanicFree.body 1000 [true, false] [(37, true), (50, false), (58, false)] h11.rebase (by first | trivial | exact HpRep.nil | assumption) (by kernel_rfl) fun s_ hs_ => ?_
      simp (maxSteps := 10000000) [SX.vc, SX.stop, SX.contS, SX.contB, SX.contW, SX.sxStep, SX.stepPure, SX.stepNew, SX.stepStore, SX.guardIx, SX.evOp, SX.opd, SX.opds, SX.look, SX.putS, SX.gobs, SX.AllP, SX.leave, SX.lookB, SX.lookT, SX.evBuiltin, SX.evBin, SX.evInt, SX.arith, SX.evLoad, SX.shapeUp, SX.evFieldAddr, SX.evIndexAddr, SX.evNew, SX.evStore, SX.spliceL, SX.SV.cells, SX.evPick, SX.popTo, SX.cnd, SX.TD.isAgg, SX.NotAgg, Go.undef, cfg58, hrk, hyt, hlt]
      refine ⟨by (unfold SX.Ob; first | trivial | omega | ((try simp only [SX.inK]); (try simp [SX.den, SX.IsU8, SX.AllP, *]); (try omega))), ?_⟩
      intro a12 w12 hr12' _
      have hr12 := h11.unbase hr12'
      exact post_rnd (C.length - (k + 1)) (by omega) (nxt _ _ _ (fun h => h.2.1 rfl) hr12.all.1.1 (by simp [spnC, setRow_same, setRow_two]) (hr12.re (by simp [envTo, SX.look, den]) trivial rfl rfl))
    by_cases hw : y.ow = -1
    · refine seg cfg58_ok mixed PanicFree.body 1000 [true, false] [(37, true), (50, true), (58, false)] h11.rebase (by first | trivial | exact HpRep.nil | assumption) (by kernel_rfl) fun s_ hs_ => ?_
      simp (maxSteps := 10000000) [SX.vc, SX.stop, SX.contS, SX.contB, SX.sxStep, SX.stepPure, SX.stepNew, SX.stepStore, SX.guardIx, SX.evOp, SX.opd, SX.opds, SX.look, SX.putS, SX.gobs, SX.AllP, SX.leave, SX.lookB, SX.lookT, SX.evBuiltin, SX.evBin, SX.evInt, SX.arith, SX.evLoad, SX.shapeUp, SX.evFieldAddr, SX.evIndexAddr, SX.evNew, SX.evStore, SX.spliceL, SX.SV.cells, SX.evPick, SX.cnd, SX.TD.isAgg, SX.NotAgg, Go.undef, cfg58, hrk, hyt, hlt, ho, hw]
      refine ⟨by (unfold SX.Ob; first | trivial | omega | ((try simp only [SX.inK]); (try simp [SX.den, SX.IsU8, SX.AllP, *]); (try omega))), ?_⟩
      intro a12 w12 hr12' _
      have hr12 := h11.unbase hr12'
      exact post_rnd (C.length - (k + 1)) (by omega) (nxt _ _ _ (fun h => h.2.2.1 hw) hr12.all.1.1 (by simp [spnC, setRow_same, setRow_two]) (hr12.re (by simp [envTo, SX.look, den]) trivial rfl rfl))
    by_cases hep : e ≤ y.ep
    · refine seg cfg58_ok mixed PanicFree.body 1000 [true, true] [(37, true), (50, true), (58, true)] h11.rebase (by first | trivial | exact HpRep.nil | assumption) (by kernel_rfl) fun s_ hs_ => ?_
      simp (maxSteps := 10000000) [SX.vc, SX.stop, SX.contS, SX.contB, SX.sxStep, SX.stepPure, SX.stepNew, SX.stepStore, SX.guardIx, SX.evOp, SX.opd, SX.opds, SX.look, SX.putS, SX.gobs, SX.AllP, SX.leave, SX.lookB, SX.lookT, SX.evBuiltin, SX.evBin, SX.evInt, SX.arith, SX.evLoad, SX.shapeUp, SX.evFieldAddr, SX.evIndexAddr, SX.evNew, SX.evStore, SX.spliceL, SX.SV.cells, SX.evPick, SX.cnd, SX.TD.isAgg, SX.NotAgg, cfg58, hrk, hyt, hlt, ho, hw, hep]
      refine ⟨by (unfold SX.Ob; first | trivial | omega | ((try simp only [SX.inK]); (try simp [SX.den, SX.IsU8, SX.AllP, *]); (try omega))), ?_⟩
      intro a12 w12 hr12' _
      have hr12 := h11.unbase hr12'
      have h1 : oldS f t o e C = true := oldS_iff.2 ⟨_, nth_mem (d := spn0) hlt, hy ▸ ⟨hgy, ho, hw, hep⟩⟩
      have f1 : giveE L f t o e = 61 := by
        unfold giveE
        rw [if_pos ⟨hW, hM'⟩, hCw, h1]
        rfl
      have f2 : giveL L f t o e = [] := by
        unfold giveL
        rw [f1]
        rfl
      exact post_retn (end2 hr12 rfl rfl rfl ⟨.slice none 0 0, by rw [f1]; simp [den, denL], by rw [f2]; exact OwS.nil, hr12.keeps.toBelow⟩).1
    · refine seg cfg58_ok mixed PanicFree.body 1000 [true, false] [(37, true), (50, true), (58, true)] h11.rebase (by first | trivial | exact HpRep.nil | assumption) (by kernel_rfl) fun s_ hs_ => ?_
      simp (maxSteps := 10000000) [SX.vc, SX.stop, SX.contS, SX.contB, SX.sxStep, SX.stepPure, SX.stepNew, SX.stepStore, SX.guardIx, SX.evOp, SX.opd, SX.opds, SX.look, SX.putS, SX.gobs, SX.AllP, SX.leave, SX.lookB, SX.lookT, SX.evBuiltin, SX.evBin, SX.evInt, SX.arith, SX.evLoad, SX.shapeUp, SX.evFieldAddr, SX.evIndexAddr, SX.evNew, SX.evStore, SX.spliceL, SX.SV.cells, SX.evPick, SX.cnd, SX.TD.isAgg, SX.NotAgg, cfg58, hrk, hyt, hlt, ho, hw, hep]
      refine ⟨by (unfold SX.Ob; first | trivial | omega | ((try simp only [SX.inK]); (try simp [SX.den, SX.IsU8, SX.AllP, *]); (try omega))), ?_⟩
      intro a12 w12 hr12' _
      have hr12 := h11.unbase hr12'
      exact post_rnd (C.length - (k + 1)) (by omega) (nxt _ _ _ (fun h => hep h.2.2.2) hr12.all.1.1 (by simp [spnC, setRow_same, setRow_two]) (hr12.re (by simp [envTo, SX.look, den]) trivial rfl rfl))
  · obtain rfl : k = C.length := by omega
    obtain ⟨f1, f2⟩ := fin fun j hj hl => by omega
    obtain ⟨vd, vc, rfl⟩ := hO.slice
    rw [hMl] at hr10
    refine seg cfg58_ok mixed PanicFree.body 1000 [false] [(37, false)] hr10.rebase (by first | trivial | exact HpRep.nil | assumption) (by kernel_rfl) fun s_ hs_ => ?_
    simp (maxSteps := 10000000) [SX.vc, SX.stop, SX.contS, SX.contB, SX.contW, SX.sxStep, SX.stepPure, SX.stepNew, SX.stepStore, SX.guardIx, SX.evOp, SX.opd, SX.opds, SX.look, SX.putS, SX.gobs, SX.AllP, SX.leave, SX.lookB, SX.lookT, SX.evBuiltin, SX.evBin, SX.evInt, SX.evNew, SX.evStore, SX.evPick, SX.popTo, SX.cnd, Go.undef, cfg58]
    refine ⟨by (unfold SX.Ob; first | trivial | omega | ((try simp only [SX.inK]); (try simp [SX.den, SX.IsU8, SX.AllP, *]); (try omega))), ?_⟩
    intro a12 w12 hr12' _
    have hr12 := hr10.unbase hr12'
    have hO12 := hO.keep hr12'.keeps (by simp [mutB])
    rw [hMl] at hO12
    refine post_call 75 [.v (.slice vd C.length vc)] hr12 (by first | exact wanted_none rfl | exact wanted_zero (hr12.env.same rfl rfl rfl rfl) rfl (by simp) | exact wanted_zero (hr12.env.same rfl rfl rfl rfl) rfl (by simp [*])) rfl (callable 75 Try.func75) (join_ok w12 (.slice vd C.length vc) M hO12.rd (by omega)) ?_
    rintro e13 w13 ⟨v13, rfl, hO13, hb13⟩
    refine ⟨_, rfl, ?_⟩
    have h13' := hr12.ret hb13 78 (.v v13) rfl _ (hr12.all.below hb13) (by simp) rfl
    have z12 : w.heap.size ≤ w12.heap.size := hr12.keeps.size
    have h13 := h13'.see [] trivial
    refine seg cfg58_ok mixed PanicFree.body 1000 [] [] h13.rebase (by first | trivial | exact HpRep.nil | assumption) (by kernel_rfl) fun s_ hs_ => ?_
    simp (maxSteps := 10000000) [SX.vc, SX.stop, SX.contS, SX.contB, SX.contW, SX.sxStep, SX.stepPure, SX.stepNew, SX.stepStore, SX.guardIx, SX.evOp, SX.opd, SX.opds, SX.look, SX.putS, SX.gobs, SX.AllP, SX.leave, SX.lookB, SX.lookT, SX.evBuiltin, SX.evBin, SX.evInt, SX.evNew, SX.evStore, SX.evPick, SX.popTo, SX.cnd, Go.undef, cfg58]
    refine ⟨by (unfold SX.Ob; first | trivial | omega | ((try simp only [SX.inK]); (try simp [SX.den, SX.IsU8, SX.AllP, *]); (try omega))), ?_⟩
    intro a14 w14 hr14' _
    have hr14 := h13.unbase hr14'
    exact post_retn (end2 hr14 rfl rfl rfl ⟨v13, by rw [f1]; simp [den, denL], by rw [f2]; exact (hO13.mono (P' := fun x => w.heap.size ≤ x) fun x _ h => by omega).keep hr14'.keeps (by simp [mutB]), hr14.keeps.toBelow⟩).1
end Go.Proofs.S7
namespace Go.Proofs.S7
open Go Go.Proofs Go.SX Go.RowKit
theorem hasS_some {L : List Spn} {b : Int} (h : ChkP L) (h0 : 0 ≤ b) (h1 : b < endS 0 L) : ∃ t, HasS L b t := by
  obtain ⟨j, hj, hi⟩ := inS_some h.1 h0 h1
  exact ⟨_, _, nth_mem (d := spn0) hj, hi, rfl⟩
theorem hasS_may : ∀ {L : List Spn} {last b : Int} {t : Int × Int}, ChkS last L → HasS L b t → MayO t.1 t.2
  | [], _, _, _, _, ⟨_, h, _⟩ => by cases h
  | s :: r, last, b, t, h, h1 => by
    rcases hasS_cons.1 h1 with ⟨_, e⟩ | h1
    · rw [← e]; exact h.2.2.1
    · exact hasS_may h.2.2.2 h1
theorem giv_in {f t b : Int} {s : Spn} (hf : ¬ (s.fr < f ∧ f < s.to)) (ht : ¬ (s.fr < t ∧ t < s.to)) (hi : InS b s) : Giv f t s ↔ f ≤ b ∧ b < t := by
  have h1 := hi.1
  have h2 := hi.2
  unfold Giv
  constructor
  · rintro ⟨a, c⟩; omega
  · rintro ⟨a, c⟩; omega
theorem giv_fr {f t o e : Int} {s : Spn} : (giv f t o e s).fr = s.fr := by unfold giv; split <;> rfl
theorem giv_to {f t o e : Int} {s : Spn} : (giv f t o e s).to = s.to := by unfold giv; split <;> rfl
theorem chkS_giv {f t o e : Int} (hM : MayO o e) : ∀ {C : List Spn} {last : Int}, ChkS last C → ChkS last (C.map (giv f t o e)) ∧ endS last (C.map (giv f t o e)) = endS last C
  | [], _, _ => ⟨trivial, rfl⟩
  | s :: r, last, h => by
    obtain ⟨i1, i2⟩ := chkS_giv (f := f) (t := t) hM h.2.2.2
    refine ⟨⟨by rw [giv_fr]; exact h.1, by rw [giv_fr, giv_to]; exact h.2.1, ?_, by rw [giv_to]; exact i1⟩, by simp only [List.map_cons, endS, giv_to]; exact i2⟩
    unfold giv
    split
    · exact hM
    · exact h.2.2.1
theorem giveE_cases (L : List Spn) (f t o e : Int) : giveE L f t o e = 1 ∧ ¬ (Within L f t ∧ MayO o e) ∨ Within L f t ∧ MayO o e ∧ (giveE L f t o e = 61 ∧ oldS f t o e (cutsS [f, t] L) = true ∨ giveE L f t o e = 0 ∧ oldS f t o e (cutsS [f, t] L) = false) := by
  unfold giveE
  by_cases h : Within L f t ∧ MayO o e
  · rw [if_pos h]
    refine .inr ⟨h.1, h.2, ?_⟩
    by_cases h2 : oldS f t o e (cutsS [f, t] L) = true
    · rw [if_pos h2]; exact .inl ⟨rfl, h2⟩
    · rw [if_neg h2]; exact .inr ⟨rfl, by simpa using h2⟩
  · rw [if_neg h]; exact .inl ⟨rfl, h⟩
theorem give_facts {L : List Spn} {f t o e : Int} (h : giveE L f t o e = 0) : ChkP (giveL L f t o e) ∧ endS 0 (giveL L f t o e) = endS 0 L ∧ NoGoL (giveL L f t o e) ∧ ∀ b u, HasS (giveL L f t o e) b u ↔ if f ≤ b ∧ b < t then u = (o, e) else HasS L b u := by
  have hc := giveE_cases L f t o e
  rw [h] at hc
  rcases hc with ⟨h', _⟩ | ⟨hW, hM, ⟨h', _⟩ | ⟨_, ho⟩⟩
  · simp at h'
  · simp at h'
  obtain ⟨c1, c2, c3, c4, c5⟩ := cutsS_facts [f, t] hW.1.1
  unfold giveL
  rw [if_pos h]
  obtain ⟨g1, g2⟩ := chkS_giv (f := f) (t := t) hM c1
  have hX : ChkP ((cutsS [f, t] L).map (giv f t o e)) := ⟨g1, by rw [g2, c2]; exact hW.1.2.1, by rw [g2, c2]; exact hW.1.2.2⟩
  obtain ⟨j1, j2, j3⟩ := join_facts hX
  refine ⟨j1, by rw [j2, g2, c2], join_noGo _ [] trivial, fun b u => ?_⟩
  rw [j3]
  have key : HasS ((cutsS [f, t] L).map (giv f t o e)) b u ↔ ∃ s ∈ cutsS [f, t] L, InS b s ∧ (if f ≤ b ∧ b < t then (o, e) else (s.ow, s.ep)) = u := by
    have hg : ∀ s ∈ cutsS [f, t] L, InS b s → ((giv f t o e s).ow, (giv f t o e s).ep) = if f ≤ b ∧ b < t then (o, e) else (s.ow, s.ep) := fun s hs hi => by
      have := giv_in (c5 f (by simp) s hs) (c5 t (by simp) s hs) hi
      unfold giv
      by_cases h' : f ≤ b ∧ b < t
      · rw [if_pos (this.2 h'), if_pos h']
      · rw [if_neg (fun h'' => h' (this.1 h'')), if_neg h']
    have hin : ∀ s, InS b (giv f t o e s) ↔ InS b s := fun s => by unfold InS; rw [giv_fr, giv_to]
    constructor
    · rintro ⟨x, hx, hi, hu⟩
      obtain ⟨s, hs, rfl⟩ := List.mem_map.1 hx
      exact ⟨s, hs, (hin s).1 hi, by rw [← hg s hs ((hin s).1 hi)]; exact hu⟩
    · rintro ⟨s, hs, hi, hu⟩
      exact ⟨_, List.mem_map.2 ⟨s, hs, rfl⟩, (hin s).2 hi, by rw [hg s hs hi]; exact hu⟩
  rw [key]
  by_cases h' : f ≤ b ∧ b < t
  · simp only [if_pos h']
    constructor
    · rintro ⟨_, _, _, hu⟩; exact hu.symm
    · intro hu
      obtain ⟨v, s, hs, hi, _⟩ := hasS_some hW.1 (b := b) (by have := hW.2.1; omega) (by have := hW.2.2.2; omega)
      obtain ⟨s', hs', hi', _⟩ := (c3 b v).2 ⟨s, hs, hi, by assumption⟩
      exact ⟨s', hs', hi', hu.symm⟩
  · simp only [if_neg h']
    rw [← c3]
    rfl
end Go.Proofs.S7
namespace Go.Proofs.S7
open Go Go.Proofs Go.SX Go.RowKit
def freeS (o : Int) (s : Spn) : Spn := if s.ow = o then { s with ow := -1, ep := 0 } else s
def ownS (o : Int) (s : Spn) : Bool := decide (s.ow = o)
def TakeOK (L : List Spn) (o : Int) : Prop := ChkP L ∧ 0 ≤ o ∧ o < 8
instance (L : List Spn) (o : Int) : Decidable (TakeOK L o) := by unfold TakeOK; infer_instance
def takeE (L : List Spn) (o : Int) : Int := if TakeOK L o then 0 else 1
def takeL (L : List Spn) (o : Int) : List Spn := if TakeOK L o then joinS (L.map (freeS o)) else []
def takeW (L : List Spn) (o : Int) : List Spn := if TakeOK L o then L.filter (ownS o) else []
def TakeR (w : World) (L : List Spn) (o : Int) (ev : Ending) (w' : World) : Prop :=
  ∃ v1 v2, ev = .returned (den (.tu [.v v1, .v v2, .v (.int .i64 (takeE L o))])) ∧ RdP (fun x => w.heap.size ≤ x) w' v1 (takeL L o) ∧ RdP (fun x => w.heap.size ≤ x) w' v2 (takeW L o) ∧ Below w.heap.size w w'
theorem filter_take {p : Spn → Bool} {L : List Spn} {k : Nat} {x : Spn} (h : k < L.length) (hx : nth spn0 L k = x) : (L.take (k + 1)).filter p = (L.take k).filter p ++ (if p x then [x] else []) := by
  rw [take_nth (d := spn0) h, hx, List.filter_append]
  congr 1
  by_cases hp : p x <;> simp [hp]
def TkLoop (ws : World) (v : Value) (L : List Spn) (o : Int) (bo N cap u : Nat) (m : Nat) (a : Act) (w' : World) : Prop :=
  ∃ (k : Nat) (vw : Value) (row : Nat → List SV), m = L.length - k ∧ k ≤ L.length ∧ OwP (fun x => ws.heap.size ≤ x) w' vw ((L.take k).filter (ownS o)) ∧ (∀ j, j < L.length → row j = spnC (nth spn0 ((L.take k).map (freeS o) ++ L.drop k) j)) ∧
    RepX ⟨ws, ws.heap.size, [bo]⟩ ⟨[(26, 0, .v (.int .i64 k)), (25, 0, .v (.int .i64 L.length)), (24, 0, .v v), (1, 0, .v (.int .i64 o)), (8, 0, .sl 0 bo 0 0 L.length cap 4), (7, 0, .v vw), (4, 0, .v (.slice none 0 0)), (5, 0, .v (.slice none 0 0)), (6, 0, .v (.int .i64 0))], [(bo, true, .arr 0 N row 4 u (0, 0))], 0, 0, 51, [], [], []⟩ a w'
set_option maxRecDepth 100000 in
set_option maxHeartbeats 16000000 in
theorem Take_ok {P : Nat → Prop} (w : World) (v : Value) (L : List Spn) (o : Int) (hL : RdP P w v L) (hn : L.length ≤ 100000) : Calls Try.prog 80 (denL [.v v, .v (.int .i64 o)]).toArray w (TakeR w L o) := by
  obtain ⟨ad, cp, rfl⟩ := hL.slice
  refine enter (F := frame0 w) Try.func80 rfl [.v (.slice ad L.length cp), .v (.int .i64 o)] [] (by simp [Try.f80]) trivial (keeps0 w) fun a hr => ?_
  refine seg cfg80_ok mixed PanicFree.body 1000 [] [] hr (by first | trivial | exact HpRep.nil | assumption) (by kernel_rfl) fun s_ hs_ => ?_
  simp (maxSteps := 10000000) [SX.vc, SX.stop, SX.contS, SX.sxStep, SX.stepPure, SX.stepNew, SX.stepStore, SX.guardIx, SX.evOp, SX.opd, SX.look, SX.putS, SX.gobs, SX.AllP, SX.leave, SX.evNew, SX.evStore, SX.env0, cfg80, Try.f80]
  refine ⟨by (unfold SX.Ob; first | trivial | omega | ((try simp only [SX.inK]); (try simp [SX.den, SX.IsU8, SX.AllP, *]); (try omega))), ?_⟩
  intro a1 w1 hr1 _
  refine post_call 88 [.v (.slice ad L.length cp)] hr1 (by first | exact wanted_none rfl | exact wanted_zero (hr1.env.same rfl rfl rfl rfl) rfl (by simp) | exact wanted_zero (hr1.env.same rfl rfl rfl rfl) rfl (by simp [*])) rfl (callable 88 Try.func88) (check_ok w1 _ L (hL.below hr1.keeps.toBelow) (by omega)) ?_
  rintro e2 w2 ⟨rfl, hb2⟩
  refine ⟨_, rfl, ?_⟩
  have h2 := hr1.ret hb2 12 (.v (.int .i64 (chkP L))) rfl _ (hr1.all.below hb2) (by simp) rfl
  have bad : ¬ TakeOK L o → takeE L o = 1 ∧ takeL L o = [] ∧ takeW L o = [] := fun h => ⟨if_neg h, if_neg h, if_neg h⟩
  by_cases hC : ChkP L
  rotate_left
  · have hc : chkP L = 1 := if_neg hC
    obtain ⟨hE, hG, hX⟩ := bad fun h => hC h.1
    refine seg cfg80_ok mixed PanicFree.body 1000 [true] [(14, true), (18, true)] h2 (by first | trivial | exact HpRep.nil | assumption) (by kernel_rfl) fun s_ hs_ => ?_
    simp (maxSteps := 10000000) [SX.vc, SX.stop, SX.contS, SX.contB, SX.sxStep, SX.stepPure, SX.guardIx, SX.evOp, SX.opd, SX.look, SX.putS, SX.gobs, SX.AllP, SX.leave, SX.lookB, SX.evBin, SX.evInt, SX.evPick, SX.cnd, Go.undef, cfg80, hc]
    refine ⟨by (unfold SX.Ob; first | trivial | omega | ((try simp only [SX.inK]); (try simp [SX.den, SX.IsU8, SX.AllP, *]); (try omega))), ?_⟩
    intro a3 w3 hr3 _
    exact post_retn (end3 hr3 rfl rfl rfl rfl ⟨.slice none 0 0, .slice none 0 0, by rw [hE]; simp [den, denL], by rw [hG]; exact OwS.nil.rd, by rw [hX]; exact OwS.nil.rd, hr3.keeps.toBelow⟩).1
  have hc : chkP L = 0 := if_pos hC
  by_cases ho0 : o < 0
  · obtain ⟨hE, hG, hX⟩ := bad fun h => by have := h.2.1; omega
    refine seg cfg80_ok mixed PanicFree.body 1000 [true] [(14, false), (18, true)] h2 (by first | trivial | exact HpRep.nil | assumption) (by kernel_rfl) fun s_ hs_ => ?_
    simp (maxSteps := 10000000) [SX.vc, SX.stop, SX.contS, SX.contB, SX.sxStep, SX.stepPure, SX.guardIx, SX.evOp, SX.opd, SX.look, SX.putS, SX.gobs, SX.AllP, SX.leave, SX.lookB, SX.evBin, SX.evInt, SX.evPick, SX.cnd, Go.undef, cfg80, hc, ho0]
    refine ⟨by (unfold SX.Ob; first | trivial | omega | ((try simp only [SX.inK]); (try simp [SX.den, SX.IsU8, SX.AllP, *]); (try omega))), ?_⟩
    intro a3 w3 hr3 _
    exact post_retn (end3 hr3 rfl rfl rfl rfl ⟨.slice none 0 0, .slice none 0 0, by rw [hE]; simp [den, denL], by rw [hG]; exact OwS.nil.rd, by rw [hX]; exact OwS.nil.rd, hr3.keeps.toBelow⟩).1
  by_cases ho8 : 8 ≤ o
  · obtain ⟨hE, hG, hX⟩ := bad fun h => by have := h.2.2; omega
    refine seg cfg80_ok mixed PanicFree.body 1000 [true] [(14, false), (18, false)] h2 (by first | trivial | exact HpRep.nil | assumption) (by kernel_rfl) fun s_ hs_ => ?_
    simp (maxSteps := 10000000) [SX.vc, SX.stop, SX.contS, SX.contB, SX.sxStep, SX.stepPure, SX.guardIx, SX.evOp, SX.opd, SX.look, SX.putS, SX.gobs, SX.AllP, SX.leave, SX.lookB, SX.evBin, SX.evInt, SX.evPick, SX.cnd, cfg80, hc, ho0, ho8]
    refine ⟨by (unfold SX.Ob; first | trivial | omega | ((try simp only [SX.inK]); (try simp [SX.den, SX.IsU8, SX.AllP, *]); (try omega))), ?_⟩
    intro a3 w3 hr3 _
    exact post_retn (end3 hr3 rfl rfl rfl rfl ⟨.slice none 0 0, .slice none 0 0, by rw [hE]; simp [den, denL], by rw [hG]; exact OwS.nil.rd, by rw [hX]; exact OwS.nil.rd, hr3.keeps.toBelow⟩).1
  have hT : TakeOK L o := ⟨hC, by omega, by omega⟩
  have hE : takeE L o = 0 := if_pos hT
  have hG : takeL L o = joinS (L.map (freeS o)) := if_pos hT
  have hX : takeW L o = L.filter (ownS o) := if_pos hT
  refine seg cfg80_ok mixed PanicFree.body 1000 [false] [(14, false), (18, false)] h2 (by first | trivial | exact HpRep.nil | assumption) (by kernel_rfl) fun s_ hs_ => ?_
  simp (maxSteps := 10000000) [SX.vc, SX.stop, SX.contS, SX.contB, SX.sxStep, SX.stepPure, SX.stepNew, SX.stepStore, SX.guardIx, SX.evOp, SX.opd, SX.look, SX.putS, SX.gobs, SX.AllP, SX.leave, SX.lookB, SX.evBin, SX.evInt, SX.evNew, SX.evStore, SX.evPick, SX.cnd, cfg80, hc, ho0, ho8]
  refine ⟨by (unfold SX.Ob; first | trivial | omega | ((try simp only [SX.inK]); (try simp [SX.den, SX.IsU8, SX.AllP, *]); (try omega))), ?_⟩
  intro a3 w3 hr3 _
  refine post_call 41 [.v (.slice ad L.length cp)] hr3 (by first | exact wanted_none rfl | exact wanted_zero (hr3.env.same rfl rfl rfl rfl) rfl (by simp) | exact wanted_zero (hr3.env.same rfl rfl rfl rfl) rfl (by simp [*])) rfl (callable 41 Try.func41) (clone_ok w3 _ L (hL.below hr3.keeps.toBelow) hC.ne (by omega)) ?_
  rintro e4 w4 ⟨v4, rfl, hO4, hb4⟩
  refine ⟨_, rfl, ?_⟩
  have h4 := hr3.ret hb4 23 (.v v4) rfl _ (hr3.all.below hb4) (by simp) rfl
  obtain ⟨bo, N, cap, u, row0, hPo, rfl, hc0, hc1, hc2, hrep0, hrow0⟩ := hO4.opn hC.ne
  have z3 : w.heap.size ≤ w3.heap.size := hr3.keeps.size
  have h5 := (h4.top 23 (.sl 0 bo 0 0 L.length cap 4) rfl (by simp [den])).see [(bo, true, .arr 0 N row0 4 u (0, 0))] ⟨⟨hrep0, fun _ => .inl (Nat.le_trans z3 hPo), by simp⟩, trivial⟩
  refine seg cfg80_ok mixed PanicFree.body 1000 [] [] h5 (by first | trivial | exact HpRep.nil | assumption) (by kernel_rfl) fun s_ hs_ => ?_
  simp (maxSteps := 10000000) [SX.vc, SX.stop, SX.contS, SX.sxStep, SX.stepPure, SX.guardIx, SX.evOp, SX.opd, SX.opds, SX.look, SX.putS, SX.gobs, SX.AllP, SX.leave, SX.lookT, SX.evBuiltin, cfg80]
  refine ⟨by (unfold SX.Ob; first | trivial | omega | ((try simp only [SX.inK]); (try simp [SX.den, SX.IsU8, SX.AllP, *]); (try omega))), ?_⟩
  intro a6 w6 hr6 _
  have hbo : bo < w6.heap.size := SO.rep_lt hr6.all.1.1
  have hLw : RdP (fun x => x < w.heap.size) w6 (.slice ad L.length cp) L := (hL.mono (P' := fun x => x < w.heap.size) fun x h _ => h).below hr6.keeps.toBelow
  refine post_loop (TkLoop w6 (.slice ad L.length cp) L o bo N cap u) L.length ⟨0, .slice none 0 0, row0, rfl, by omega, OwS.nil, fun j hj => by simpa using hrow0 j hj, hr6.rebase.re (by simp [envTo, SX.look]) ⟨⟨hr6.all.1.1, fun _ => .inr (by simp [frameAt, mutB]), by simp⟩, trivial⟩ rfl rfl⟩ ?_
  rintro m a7 w7 ⟨k, vw, row, rfl, hk, hO, hrow, hr7⟩
  have z7 : w6.heap.size ≤ w7.heap.size := hr7.keeps.size
  have z6 : w.heap.size ≤ w6.heap.size := hr6.keeps.size
  by_cases hlt : k < L.length
  · obtain ⟨b, o0, cap', u', fz, hP, hv, hrep⟩ := hLw.opn hlt
    cases hv
    have hrep2 := KeepsTo.same (M := [bo]) hr7.keeps hrep (by simp; omega)
    obtain ⟨x, hx⟩ : ∃ x, nth spn0 L k = x := ⟨_, rfl⟩
    have hrk : row k = [.v (.int .i64 x.fr), .v (.int .i64 x.to), .v (.int .i64 x.ow), .v (.int .i64 x.ep)] := by rw [hrow k hlt, nth_mix hk hlt, if_neg (by omega), hx]; rfl
    have hkN : k < N := by omega
    have hft := filter_take (p := ownS o) hlt hx
    have hA7 := hr7.all.1
    have h8 := (hr7.top 24 (.sl 1 b o0 0 L.length cp 4) rfl (by simp [den])).see [(bo, true, .arr 0 N row 4 u (0, 0)), (b, false, .arr o0 L.length (fun j => spnC (nth spn0 L j)) 4 u' fz)] ⟨⟨hA7.1, hA7.2.1, by simp; omega⟩, HpAll.one hrep2⟩
    have hstep : ∀ j, j < L.length → j ≠ k → nth spn0 ((L.take (k + 1)).map (freeS o) ++ L.drop (k + 1)) j = nth spn0 ((L.take k).map (freeS o) ++ L.drop k) j := fun j hj hjk => by
      rw [nth_mix (by omega) hj, nth_mix hk hj]
      by_cases hjl : j < k
      · rw [if_pos (by omega), if_pos hjl]
      · rw [if_neg (by omega), if_neg hjl]
    have hself : nth spn0 ((L.take (k + 1)).map (freeS o) ++ L.drop (k + 1)) k = freeS o x := by rw [nth_mix (by omega) hlt, if_pos (by omega), hx]
    by_cases how : x.ow = o
    · have hfx : freeS o x = { x with ow := -1, ep := 0 } := if_pos how
      rw [show ownS o x = true by simp [ownS, how], if_pos rfl] at hft
      refine seg cfg80_ok mixed PanicFree.body 1000 [true, true] [] h8.rebase (by first | trivial | exact HpRep.nil | assumption) (by kernel_rfl) fun s_ hs_ => ?_
      simp (maxSteps := 10000000) [SX.vc, SX.stop, SX.contS, SX.contB, SX.sxStep, SX.stepPure, SX.stepNew, SX.stepStore, SX.guardIx, SX.evOp, SX.opd, SX.opds, SX.look, SX.putS, SX.gobs, SX.AllP, SX.leave, SX.lookT, SX.evBuiltin, SX.evBin, SX.evInt, SX.arith, SX.evLoad, SX.shapeUp, SX.evFieldAddr, SX.evIndexAddr, SX.cellsV, SX.evNew, SX.evStore, SX.spliceL, SX.SV.cells, SX.TD.isAgg, SX.NotAgg, Go.Value.cells, cfg80, spnC, hx, how]
      refine ⟨by (unfold SX.Ob; first | trivial | omega | ((try simp only [SX.inK]); (try simp [SX.den, SX.IsU8, SX.AllP, *]); (try omega))), ?_⟩
      intro a9 w9 hr9' _
      have hr9 := h8.unbase hr9'
      have z9 : w6.heap.size ≤ w9.heap.size := hr9.keeps.size
      have hO9 := hO.keep hr9'.keeps (by simp [mutB]; omega)
      have hA9 := hr9.all.1
      have hwl : (List.filter (ownS o) (List.take k L)).length ≤ 100000 := Nat.le_trans (List.length_filter_le _ _) (by simp; omega)
      refine post_app (C := cfg80) cfg80_ok hr9 (by first | exact wanted_none rfl | exact wanted_zero (hr9.env.same rfl rfl rfl rfl) rfl (by simp)) rfl (by simp) rfl rfl rfl rfl rfl rfl rfl rfl rfl (by decide) (flatS _) (by (try simp only [List.length_cons, List.length_nil]); omega) (fun x hx => Nat.le_trans z9 hx) hO9 (RdS.lit (x := x) hr9.all.2.2.2.1.1 (by simp [spnC, how])) [(bo, true, .arr 0 N row 4 u (0, 0))] (fun w' B hk hB => ⟨⟨KeepsTo.same hk hA9.1 (fun h => absurd (hB _ h).1 (Nat.not_le.2 hbo)), hA9.2.1, by simp⟩, trivial⟩) (fun x hx => .inl hx) fun V10 a10 w10 B10 hO10 hB10 hk10 hr10 => ?_
      refine seg cfg80_ok mixed PanicFree.body 1000 [] [] hr10.rebase (by first | trivial | exact HpRep.nil | assumption) (by kernel_rfl) fun s_ hs_ => ?_
      simp (maxSteps := 10000000) [SX.vc, SX.stop, SX.contS, SX.sxStep, SX.stepPure, SX.stepNew, SX.stepStore, SX.guardIx, SX.evOp, SX.opd, SX.look, SX.putS, SX.gobs, SX.AllP, SX.leave, SX.lookT, SX.evBin, SX.evInt, SX.arith, SX.evFieldAddr, SX.evIndexAddr, SX.evNew, SX.evStore, SX.spliceL, SX.SV.cells, SX.NotAgg, cfg80, hrk]
      refine ⟨by (unfold SX.Ob; first | trivial | omega | ((try simp only [SX.inK]); (try simp [SX.den, SX.IsU8, SX.AllP, *]); (try omega))), ?_⟩
      intro a11 w11 hr11' _
      have hr11 := hr10.unbase hr11'
      exact post_rnd (L.length - (k + 1)) (by omega) ⟨k + 1, V10, _, rfl, hlt, by rw [hft]; exact hO10.keep hr11'.keeps (by simp [mutB]; omega), fun j hj => (by
        by_cases hjk : j = k
        · subst hjk
          rw [hself, hfx]
          simp [setRow_same, spnC]
        · rw [hstep j hj hjk, ← hrow j hj, setRow_two]
          unfold setRow
          rw [if_neg hjk]), hr11.re (by simp [envTo, SX.look, den]) hr11.all rfl rfl⟩
    · have hfx : freeS o x = x := if_neg how
      rw [show ownS o x = false by simp [ownS, how]] at hft
      simp only [Bool.false_eq_true, if_false, List.append_nil] at hft
      refine seg cfg80_ok mixed PanicFree.body 1000 [true, false] [] h8.rebase (by first | trivial | exact HpRep.nil | assumption) (by kernel_rfl) fun s_ hs_ => ?_
      simp (maxSteps := 10000000) [SX.vc, SX.stop, SX.contS, SX.contB, SX.sxStep, SX.stepPure, SX.stepNew, SX.stepStore, SX.guardIx, SX.evOp, SX.opd, SX.opds, SX.look, SX.putS, SX.gobs, SX.AllP, SX.leave, SX.lookT, SX.evBuiltin, SX.evBin, SX.evInt, SX.arith, SX.evLoad, SX.shapeUp, SX.evFieldAddr, SX.evIndexAddr, SX.cellsV, SX.evNew, SX.evStore, SX.spliceL, SX.SV.cells, SX.TD.isAgg, SX.NotAgg, Go.Value.cells, cfg80, spnC, hx, how]
      refine ⟨by (unfold SX.Ob; first | trivial | omega | ((try simp only [SX.inK]); (try simp [SX.den, SX.IsU8, SX.AllP, *]); (try omega))), ?_⟩
      intro a9 w9 hr9' _
      have hr9 := h8.unbase hr9'
      exact post_rnd (L.length - (k + 1)) (by omega) ⟨k + 1, vw, row, rfl, hlt, by rw [hft]; exact hO.keep hr9'.keeps (by simp [mutB]; omega), fun j hj => (by
        by_cases hjk : j = k
        · subst hjk
          rw [hself, hfx, hrk]; rfl
        · rw [hstep j hj hjk, hrow j hj]), hr9.re (by simp [envTo, SX.look, den]) (hr9.all.take 1) rfl rfl⟩
  · obtain rfl : k = L.length := by omega
    simp only [List.take_length, List.drop_length, List.append_nil] at hO hrow
    have hlm : (L.map (freeS o)).length = L.length := by simp
    refine seg cfg80_ok mixed PanicFree.body 1000 [false] [] hr7.rebase (by first | trivial | exact HpRep.nil | assumption) (by kernel_rfl) fun s_ hs_ => ?_
    simp (maxSteps := 10000000) [SX.vc, SX.stop, SX.contS, SX.contB, SX.contW, SX.sxStep, SX.stepPure, SX.stepNew, SX.stepStore, SX.guardIx, SX.evOp, SX.opd, SX.look, SX.putS, SX.gobs, SX.AllP, SX.leave, SX.evBin, SX.evInt, SX.evNew, SX.evStore, SX.popTo, cfg80]
    refine ⟨by (unfold SX.Ob; first | trivial | omega | ((try simp only [SX.inK]); (try simp [SX.den, SX.IsU8, SX.AllP, *]); (try omega))), ?_⟩
    intro a9 w9 hr9' _
    have hr9'' := hr7.unbase hr9'
    have hO9 := hO.keep hr9'.keeps (by simp [mutB]; omega)
    have hr9 := hr6.unbase hr9''
    have hM9 : RdP (fun _ => True) w9 (.slice (some ⟨bo, 0, none⟩) L.length cap) (L.map (freeS o)) := .inr ⟨by rw [hlm]; exact hC.ne, bo, 0, cap, u, (0, 0), trivial, by rw [hlm], rep_arr_sub hr9.all.1.1 (by rw [hlm]; omega) (fun j hj => by rw [hrow j (by omega)]), by rw [hlm]; omega⟩
    have z9 : w6.heap.size ≤ w9.heap.size := Nat.le_trans z7 hr9'.keeps.size
    refine post_call 75 [.sl 0 bo 0 0 L.length cap 4] hr9 (by first | exact wanted_none rfl | exact wanted_zero (hr9.env.same rfl rfl rfl rfl) rfl (by simp) | exact wanted_zero (hr9.env.same rfl rfl rfl rfl) rfl (by simp [*])) rfl (callable 75 Try.func75) (join_ok w9 _ _ hM9 (by omega)) ?_
    rintro e10 w10 ⟨v10, rfl, hO10, hb10⟩
    refine ⟨_, rfl, ?_⟩
    have h10' := hr9.ret hb10 49 (.v v10) rfl _ (hr9.all.below hb10) (by simp) rfl
    have h10 := h10'.see [] trivial
    have hW10 := hO9.below hb10
    refine seg cfg80_ok mixed PanicFree.body 1000 [] [] h10.rebase (by first | trivial | exact HpRep.nil | assumption) (by kernel_rfl) fun s_ hs_ => ?_
    simp (maxSteps := 10000000) [SX.vc, SX.stop, SX.contS, SX.contB, SX.contW, SX.sxStep, SX.stepPure, SX.stepNew, SX.stepStore, SX.guardIx, SX.evOp, SX.opd, SX.look, SX.putS, SX.gobs, SX.AllP, SX.leave, SX.evBin, SX.evInt, SX.evNew, SX.evStore, SX.popTo, cfg80]
    refine ⟨by (unfold SX.Ob; first | trivial | omega | ((try simp only [SX.inK]); (try simp [SX.den, SX.IsU8, SX.AllP, *]); (try omega))), ?_⟩
    intro a11 w11 hr11' _
    have hr11 := h10.unbase hr11'
    exact post_retn (end3 hr11 rfl rfl rfl rfl ⟨v10, vw, by rw [hE]; simp [den, denL], by rw [hG]; exact (hO10.rd.mono (P' := fun x => w.heap.size ≤ x) fun x _ h => by omega).keep hr11'.keeps (by simp [mutB]), by rw [hX]; exact (hW10.rd.mono (P' := fun x => w.heap.size ≤ x) fun x _ h => by omega).keep hr11'.keeps (by simp [mutB]), hr11.keeps.toBelow⟩).1
end Go.Proofs.S7
