/- B2: texts of this proof, joined. -/
import Derived.Test.YtbhkpmnieopddaaB1
set_option linter.unusedVariables false
set_option linter.unusedSimpArgs false
set_option linter.unusedSectionVars false
namespace Go.Proofs.L6
open Go Go.Proofs Go.SX Go.RowKit
def InsR (Q : Nat → Prop) (w : World) (L' : List Lse) (e : Ending) (w' : World) : Prop := ∃ v' B, e = .returned v' ∧ OwL (fun x => Q x ∨ w.heap.size ≤ x) w' v' L' ∧ (∀ b ∈ B, Q b ∧ b < w.heap.size) ∧ KeepsTo w B w'
theorem nth_ins {L : List Lse} {i q : Nat} {x : Lse} (hi : i ≤ L.length) : nth lse0 (L.take i ++ x :: L.drop i) q = if q < i then nth lse0 L q else if q < i + 1 then x else nth lse0 L (q - 1) := by
  unfold nth
  simp only [List.getD_eq_getElem?_getD]
  by_cases h1 : q < i
  · rw [if_pos h1, List.getElem?_append_left (by simp; omega), List.getElem?_take, if_pos h1]
  · rw [if_neg h1, List.getElem?_append_right (by simp; omega)]
    have e : min i L.length = i := Nat.min_eq_left hi
    simp only [List.length_take, e]
    by_cases h2 : q < i + 1
    · rw [if_pos h2]
      obtain rfl : q = i := by omega
      simp
    · rw [if_neg h2]
      obtain ⟨p, rfl⟩ : ∃ p, q = i + 1 + p := ⟨q - (i + 1), by omega⟩
      rw [show i + 1 + p - i = p + 1 by omega, List.getElem?_cons_succ, List.getElem?_drop]
      congr 2
      omega
set_option maxRecDepth 100000 in
set_option maxHeartbeats 8000000 in
theorem insert_opn {Q : Nat → Prop} (w : World) (v : Value) (L : List Lse) (hO : ∃ (b N cap : Nat) (u : TypeId) (row : Nat → List SV), Q b ∧ v = .slice (some ⟨b, 0, none⟩) L.length cap ∧ 0 < cap ∧ L.length ≤ cap ∧ cap ≤ N ∧ (SO.arr 0 N row 4 u (0, 0)).rep w b ∧ ∀ j, j < L.length → row j = lseC (nth lse0 L j)) (i : Nat) (hi : i ≤ L.length) (hn : L.length ≤ 1000000) (s us : Nat) (x : Lse) (hs : (SO.arr 0 1 (fun _ => lseC x) 4 us (0, 0)).rep w s) (hsQ : ¬ Q s) :
    Calls Try.prog 54 (denL [.v v, .v (.int .i64 i), .sl 1 s 0 0 1 1 4]).toArray w (InsR Q w (L.take i ++ x :: L.drop i)) := by
  obtain ⟨b, N, cap, u, row, hQ, rfl, hc0, hc1, hc2, hrep, hrow⟩ := hO
  have hbs : b ≠ s := fun h => hsQ (h ▸ hQ)
  have hbw := SO.rep_lt hrep
  have hE : HpAll ⟨w, w.heap.size, [b]⟩ w [(b, true, .arr 0 N row 4 u (0, 0)), (s, false, .arr 0 1 (fun _ => lseC x) 4 us (0, 0))] := ⟨⟨hrep, fun _ => .inr (by simp), fun e he => by simp at he; subst he; exact hbs⟩, HpAll.one hs⟩
  refine enter (F := ⟨w, w.heap.size, [b]⟩) Try.func54 rfl [.sl 0 b 0 0 L.length cap 4, .v (.int .i64 i), .sl 1 s 0 0 1 1 4] _ (by simp [Try.f54]) hE (KeepsTo.refl w _) fun a hr => ?_
  have hMB : ∀ z ∈ [b], Q z ∧ z < w.heap.size := by simpa using ⟨hQ, hbw⟩
  by_cases hil : i = L.length
  · have hil' : (i : Int) = (L.length : Int) := by omega
    refine seg cfg54_ok mixed PanicFree.body 1000 [false, true] [] hr (by first | trivial | exact HpRep.nil | assumption) (by kernel_rfl) fun s_ hs_ => ?_
    simp (maxSteps := 10000000) [SX.vc, SX.stop, SX.contS, SX.contB, SX.sxStep, SX.stepPure, SX.stepNew, SX.stepStore, SX.guardIx, SX.evOp, SX.opd, SX.opds, SX.optOpd, SX.look, SX.putS, SX.gobs, SX.AllP, SX.leave, SX.lookT, SX.evBuiltin, SX.evBin, SX.evInt, SX.evNew, SX.evStore, SX.evSlice, SX.bnd, SX.env0, cfg54, Try.f54, hil']
    refine ⟨by (unfold SX.Ob; first | trivial | omega | ((try simp only [SX.inK]); (try simp [SX.den, SX.IsU8, SX.AllP, *]); (try omega))), ?_⟩
    intro a1 w1 hr1 _
    have z1 : w.heap.size ≤ w1.heap.size := hr1.keeps.size
    have hO1 : OwL (fun z => z = b ∨ w.heap.size ≤ z) w1 (.slice (some ⟨b, 0, none⟩) L.length cap) L := .inr ⟨b, N, cap, u, row, .inl rfl, rfl, hc0, hc1, hc2, hr1.all.1.1, hrow⟩
    refine post_app (C := cfg54) cfg54_ok hr1 (by first | exact wanted_none rfl | exact wanted_zero (hr1.env.same rfl rfl rfl rfl) rfl (by simp)) rfl (by simp) rfl rfl rfl rfl rfl rfl rfl rfl rfl (by decide) (flatL _) (by (try simp only [List.length_cons, List.length_nil]); omega) (fun x hx => .inr (Nat.le_trans z1 hx)) hO1 (RdS.lit (x := x) hr1.all.2.1.1 rfl) [] (fun _ _ _ _ => trivial) (fun x hx => hx.elim (fun h => .inr (by simp [h])) .inl) fun V2 a2 w2 B2 hO2 hB2 hk2 hr2 => ?_
    refine seg cfg54_ok mixed PanicFree.body 1000 [] [] hr2.rebase (by first | trivial | exact HpRep.nil | assumption) (by kernel_rfl) fun s_ hs_ => ?_
    simp (maxSteps := 10000000) [SX.vc, SX.stop, SX.contS, SX.sxStep, SX.stepPure, SX.guardIx, SX.evOp, SX.opd, SX.look, SX.putS, SX.gobs, SX.AllP, SX.leave, cfg54]
    refine ⟨by (unfold SX.Ob; first | trivial | omega | ((try simp only [SX.inK]); (try simp [SX.den, SX.IsU8, SX.AllP, *]); (try omega))), ?_⟩
    intro a3 w3 hr3' _
    have hr3 := hr2.unbase hr3'
    refine post_retn (end1 hr3 rfl rfl ⟨_, [b], rfl, ?_, hMB, hr3.keeps⟩).1
    have hO3 := (hO2.keep hr3'.keeps (by simp [mutB])).mono (P' := fun z => Q z ∨ w.heap.size ≤ z) fun z _ h => h.elim (fun h => .inl (h ▸ hQ)) .inr
    rw [hil, List.take_length, List.drop_length]
    exact hO3
  have hil' : ¬ (i : Int) = (L.length : Int) := by omega
  have hci : ¬ cap = i := by omega
  by_cases hcap : cap < L.length + 1
  · have hcap' : (cap : Int) < (L.length : Int) + 1 := by omega
    obtain ⟨q, hq⟩ : ∃ q, L.length + 1 - i = q := ⟨_, rfl⟩
    have hq' : (L.length : Int) + 1 - (i : Int) = (q : Int) := by omega
    refine seg cfg54_ok mixed PanicFree.body 1000 [false, false, true] [] hr (by first | trivial | exact HpRep.nil | assumption) (by kernel_rfl) fun s_ hs_ => ?_
    simp (maxSteps := 10000000) [SX.vc, SX.stop, SX.contS, SX.contB, SX.sxStep, SX.stepPure, SX.stepNew, SX.stepStore, SX.guardIx, SX.evOp, SX.opd, SX.opds, SX.optOpd, SX.look, SX.putS, SX.gobs, SX.AllP, SX.leave, SX.lookT, SX.evBuiltin, SX.evBin, SX.evInt, SX.arith, SX.evNew, SX.evStore, SX.evSlice, SX.bnd, SX.env0, cfg54, Try.f54, hil', hcap', hq', hci]
    refine ⟨by (unfold SX.Ob; first | trivial | omega | ((try simp only [SX.inK]); (try simp [SX.den, SX.IsU8, SX.AllP, *]); (try omega))), ?_⟩
    intro a1 w1 hr1 _
    have hRd : RdL (fun _ => True) w1 (.slice (some ⟨b, 0, none⟩) i cap) (L.take i) := by
      have h := RdS.part (enc := lseC) (sz := 4) (d := lse0) (L := L) (P := fun _ => True) (base := 0) (len := i) (cap := cap) (n := L.length) trivial rfl (rep_arr_sub (row' := fun j => lseC (nth lse0 L j)) hr1.all.1.1 (by omega) (fun j hj => by rw [hrow j hj])) (by omega) (by omega)
      simpa using h
    refine post_appMakeN (C := cfg54) (enc := lseC) (d := lse0) (n := q) (L := L.take i) (Pb := fun _ => True) cfg54_ok hr1 (wanted_none rfl) rfl (by simp) rfl rfl rfl rfl rfl rfl rfl rfl rfl (by decide) rfl (by decide) (flatL [lse0] _ (by simp)) (by omega) (by simp only [List.length_take]; show (2 * (min i L.length + q) + 192) * 32 ≤ _; omega) (by omega) hRd (by simp only [List.length_take, den]; rw [Nat.min_eq_left hi]) (by simp only [List.length_take]; omega) ?_
    intro V2 a2 w2 hO2 hk2 hr2
    have hlen : (L.take i ++ List.replicate q lse0).length = L.length + 1 := by simp; omega
    obtain ⟨b2, N2, cap2, u2, row2, hP2, rfl, hd0, hd1, hd2, hrep2, hrow2⟩ := hO2.opn (show 0 < (L.take i ++ List.replicate q lse0).length by omega)
    rw [hlen] at hd1 hr2
    have z1 : w.heap.size ≤ w1.heap.size := hr1.keeps.size
    have hsw := SO.rep_lt hs
    have h3 := (hr2.top 40 (.sl 2 b2 0 0 (L.length + 1) cap2 4) rfl (by simp [den])).see [(b, true, .arr 0 N row 4 u (0, 0)), (s, false, .arr 0 1 (fun _ => lseC x) 4 us (0, 0)), (b2, true, .arr 0 N2 row2 4 u2 (0, 0))] ⟨⟨hr2.all.1.1, fun _ => .inr (by simp), by simp; omega⟩, ⟨hr2.all.2.1.1, by simp, by simp; omega⟩, ⟨hrep2, fun _ => .inl (Nat.le_trans z1 hP2), by simp⟩, trivial⟩
    have hci2 : ¬ cap2 = i := by omega
    have hci3 : ¬ cap2 = i + 1 := by omega
    refine seg cfg54_ok mixed PanicFree.body 1000 [] [] h3 (by first | trivial | exact HpRep.nil | assumption) (by kernel_rfl) fun s_ hs_ => ?_
    simp (maxSteps := 10000000) [SX.vc, SX.stop, SX.contS, SX.sxStep, SX.stepPure, SX.stepNew, SX.stepStore, SX.guardIx, SX.evOp, SX.opd, SX.opds, SX.optOpd, SX.look, SX.putS, SX.gobs, SX.AllP, SX.leave, SX.lookT, SX.evBuiltin, SX.evNew, SX.evStore, SX.evSlice, SX.bnd, cfg54, hci2]
    refine ⟨by (unfold SX.Ob; first | trivial | omega | ((try simp only [SX.inK]); (try simp [SX.den, SX.IsU8, SX.AllP, *]); (try omega))), ?_⟩
    intro a4 w4 hr4 _
    refine post_copy (C := cfg54) cfg54_ok hr4 rfl rfl (by simp) rfl rfl rfl rfl rfl rfl rfl rfl rfl (by omega) (by omega) (fun _ _ => flatL [x] x (by simp)) fun a5 w5 hr5 => ?_
    refine seg cfg54_ok mixed PanicFree.body 1000 [] [] hr5 (by first | trivial | exact HpRep.nil | assumption) (by kernel_rfl) fun s_ hs_ => ?_
    simp (maxSteps := 10000000) [SX.vc, SX.stop, SX.contS, SX.contB, SX.contR, SX.contD, SX.sxStep, SX.stepPure, SX.stepNew, SX.stepStore, SX.guardIx, SX.evOp, SX.opd, SX.opds, SX.optOpd, SX.look, SX.putS, SX.gobs, SX.AllP, SX.leave, SX.lookT, SX.lookN, SX.evBuiltin, SX.evBin, SX.evInt, SX.arith, SX.evNew, SX.evStore, SX.evSlice, SX.bnd, SX.evUn, SX.tails, SX.thaw, SX.frzStep, cfg54, hci, hci3]
    refine ⟨by (unfold SX.Ob; first | trivial | omega | ((try simp only [SX.inK]); (try simp [SX.den, SX.IsU8, SX.AllP, *]); (try omega))), ?_⟩
    intro a6 w6 hr6 _
    have hfr : ∀ q, q < min (L.length - i) (L.length - i) → ∀ z ∈ row (i + q), NotAgg (den z) := fun q hq => by
      rw [hrow _ (by omega)]
      exact flatL [nth lse0 L (i + q)] _ (by simp)
    have hfz : frz (thaw [(b, true, SO.arr 0 N row 4 u (0, 0)), (s, false, SO.arr 0 1 (fun _ => lseC x) 4 us (0, 0)), (b2, true, SO.arr 0 N2 (copyRow row2 (fun _ => lseC x) i 0 (min 1 (L.length + 1 - i))) 4 u2 (0, 0))]) = [] := frz_thaw _
    refine post_copyD (C := cfg54) cfg54_ok hr6 rfl hfz rfl rfl (by simp) rfl rfl rfl rfl rfl rfl rfl rfl rfl (by omega) (by omega) hfr fun a7 w7 hr7 => ?_
    refine seg cfg54_ok mixed PanicFree.body 1000 [] [] hr7 (by first | trivial | exact HpRep.nil | assumption) (by kernel_rfl) fun s_ hs_ => ?_
    simp (maxSteps := 10000000) [SX.vc, SX.stop, SX.contS, SX.sxStep, SX.stepPure, SX.guardIx, SX.evOp, SX.opd, SX.look, SX.putS, SX.gobs, SX.AllP, SX.leave, cfg54]
    refine ⟨by (unfold SX.Ob; first | trivial | omega | ((try simp only [SX.inK]); (try simp [SX.den, SX.IsU8, SX.AllP, *]); (try omega))), ?_⟩
    intro a8 w8 hr8 _
    have hA8 := hr8.all.2.2.1
    refine post_retn (end1 hr8 rfl rfl ⟨_, [b], rfl, ?_, hMB, hr8.keeps⟩).1
    refine .inr ⟨b2, N2, cap2, u2, _, .inr (Nat.le_trans z1 hP2), by simp [den]; omega, hd0, by simp; omega, hd2, hA8.1, fun j hj => ?_⟩
    have hj' : j < L.length + 1 := by simp at hj; omega
    rw [nth_ins hi]
    unfold copyRow
    by_cases h1 : j < i
    · rw [if_pos (by omega), if_pos h1, if_pos h1, hrow2 j (by rw [hlen]; omega), nth_append_left (by simp; omega)]
      congr 1
      have := nth_part (d := lse0) (L := L) (i := 0) (n := i) h1
      simpa using this
    · simp only [if_neg h1]
      by_cases h2 : j < i + 1
      · simp only [if_pos h2]
        rw [if_pos (by omega)]
      · simp only [if_neg h2]
        rw [if_pos (by omega), hrow _ (by omega), show i + (j - (i + 1)) = j - 1 by omega]
  · have hcap' : ¬ (cap : Int) < (L.length : Int) + 1 := by omega
    refine seg cfg54_ok mixed PanicFree.body 1000 [false, false, false] [] hr (by first | trivial | exact HpRep.nil | assumption) (by kernel_rfl) fun s_ hs_ => ?_
    simp (maxSteps := 10000000) [SX.vc, SX.stop, SX.contS, SX.contB, SX.sxStep, SX.stepPure, SX.stepNew, SX.stepStore, SX.guardIx, SX.evOp, SX.opd, SX.opds, SX.optOpd, SX.look, SX.putS, SX.gobs, SX.AllP, SX.leave, SX.lookT, SX.evBuiltin, SX.evBin, SX.evInt, SX.arith, SX.evNew, SX.evStore, SX.evSlice, SX.bnd, SX.env0, cfg54, Try.f54, hil', hcap', hci]
    refine ⟨by (unfold SX.Ob; first | trivial | omega | ((try simp only [SX.inK]); (try simp [SX.den, SX.IsU8, SX.AllP, *]); (try omega))), ?_⟩
    intro a1 w1 hr1 _
    refine post_step rfl (exec_overlaps (C := cfg54) (fn := Try.f68) (hr1.env.same rfl rfl rfl rfl) hr1.hp (m1 := 0) rfl Try.func68 (by kernel_rfl) (by kernel_rfl) (by kernel_rfl) (tS := 25) (tR := 4) (e := 38) (by kernel_rfl) cfg54_ok rfl rfl rfl rfl rfl (fun h => hbs h.symm) (by omega) (by omega)) ?_
    have hr2 := hr1.retK (KeepsTo.refl w1 []) (by simp) 67 (.v (.bool false)) rfl _ hr1.all (by simp) rfl
    have hci3 : ¬ cap = i + 1 := by omega
    refine seg cfg54_ok mixed PanicFree.body 1000 [true] [] hr2 (by first | trivial | exact HpRep.nil | assumption) (by kernel_rfl) fun s_ hs_ => ?_
    simp (maxSteps := 10000000) [SX.vc, SX.stop, SX.contS, SX.contB, SX.contR, SX.contD, SX.sxStep, SX.stepPure, SX.stepNew, SX.stepStore, SX.guardIx, SX.evOp, SX.opd, SX.opds, SX.optOpd, SX.look, SX.putS, SX.gobs, SX.AllP, SX.leave, SX.lookT, SX.lookN, SX.evBuiltin, SX.evBin, SX.evInt, SX.arith, SX.evNew, SX.evStore, SX.evSlice, SX.bnd, SX.evUn, SX.tails, SX.thaw, SX.frzStep, cfg54, hci, hci3]
    refine ⟨by (unfold SX.Ob; first | trivial | omega | ((try simp only [SX.inK]); (try simp [SX.den, SX.IsU8, SX.AllP, *]); (try omega))), ?_⟩
    intro a6 w6 hr6 _
    have hfr : ∀ q, q < min (L.length + 1 - i) (L.length - i) → ∀ z ∈ row (i + q), NotAgg (den z) := fun q hq => by
      rw [hrow _ (by omega)]
      exact flatL [nth lse0 L (i + q)] _ (by simp)
    have hfz : frz (thaw [(b, true, SO.arr 0 N row 4 u (0, 0)), (s, false, SO.arr 0 1 (fun _ => lseC x) 4 us (0, 0))]) = [] := frz_thaw _
    refine post_copyD (C := cfg54) cfg54_ok hr6 rfl hfz rfl rfl (by simp) rfl rfl rfl rfl rfl rfl rfl rfl rfl (by omega) (by omega) hfr fun a7 w7 hr7 => ?_
    refine seg cfg54_ok mixed PanicFree.body 1000 [] [] hr7 (by first | trivial | exact HpRep.nil | assumption) (by kernel_rfl) fun s_ hs_ => ?_
    simp (maxSteps := 10000000) [SX.vc, SX.stop, SX.contS, SX.sxStep, SX.stepPure, SX.stepNew, SX.stepStore, SX.guardIx, SX.evOp, SX.opd, SX.opds, SX.optOpd, SX.look, SX.putS, SX.gobs, SX.AllP, SX.lookT, SX.evBuiltin, SX.evNew, SX.evStore, SX.evSlice, SX.bnd, cfg54, hci]
    refine ⟨by (unfold SX.Ob; first | trivial | omega | ((try simp only [SX.inK]); (try simp [SX.den, SX.IsU8, SX.AllP, *]); (try omega))), ?_⟩
    intro a8 w8 hr8 _
    refine post_copy (C := cfg54) cfg54_ok hr8 rfl rfl (by simp) rfl rfl rfl rfl rfl rfl rfl rfl rfl (by omega) (by omega) (fun _ _ => flatL [x] x (by simp)) fun a9 w9 hr9 => ?_
    refine seg cfg54_ok mixed PanicFree.body 1000 [] [] hr9 (by first | trivial | exact HpRep.nil | assumption) (by kernel_rfl) fun s_ hs_ => ?_
    simp (maxSteps := 10000000) [SX.vc, SX.stop, SX.contS, SX.sxStep, SX.stepPure, SX.guardIx, SX.evOp, SX.opd, SX.look, SX.putS, SX.gobs, SX.AllP, SX.leave, cfg54]
    refine ⟨by (unfold SX.Ob; first | trivial | omega | ((try simp only [SX.inK]); (try simp [SX.den, SX.IsU8, SX.AllP, *]); (try omega))), ?_⟩
    intro a10 w10 hr10 _
    refine post_retn (end1 hr10 rfl rfl ⟨_, [b], rfl, ?_, hMB, hr10.keeps⟩).1
    refine .inr ⟨b, N, cap, u, _, .inl hQ, by simp [den]; omega, hc0, by simp; omega, hc2, hr10.all.1.1, fun j hj => ?_⟩
    have hj' : j < L.length + 1 := by simp at hj; omega
    rw [nth_ins hi]
    unfold copyRow
    by_cases h1 : j < i
    · simp only [if_pos h1]
      rw [if_pos (by omega), hrow j (by omega)]
    · simp only [if_neg h1]
      by_cases h2 : j < i + 1
      · simp only [if_pos h2]
        rw [if_pos (by omega)]
      · simp only [if_neg h2]
        rw [if_neg (by omega), if_pos (by omega), hrow _ (by omega), show i + (j - (i + 1)) = j - 1 by omega]
set_option maxRecDepth 100000 in
set_option maxHeartbeats 8000000 in
theorem insert_ok {Q : Nat → Prop} (w : World) (v : Value) (L : List Lse) (hO : OwL Q w v L) (i : Nat) (hi : i ≤ L.length) (hn : L.length ≤ 1000000) (s us : Nat) (x : Lse) (hs : (SO.arr 0 1 (fun _ => lseC x) 4 us (0, 0)).rep w s) (hsQ : ¬ Q s) :
    Calls Try.prog 54 (denL [.v v, .v (.int .i64 i), .sl 1 s 0 0 1 1 4]).toArray w (InsR Q w (L.take i ++ x :: L.drop i)) := by
  rcases hO with ⟨rfl, ad, rfl⟩ | h
  rotate_left
  · exact insert_opn w v L h i hi hn s us x hs hsQ
  obtain rfl : i = 0 := by simpa using hi
  rcases ad with _ | ad
  · refine enter (F := frame0 w) Try.func54 rfl [.v (.slice none 0 0), .v (.int .i64 0), .sl 0 s 0 0 1 1 4] [(s, false, .arr 0 1 (fun _ => lseC x) 4 us (0, 0))] (by simp [Try.f54]) (HpAll.one hs) (keeps0 w) fun a hr => ?_
    refine seg cfg54_ok mixed PanicFree.body 1000 [false, true] [] hr (by first | trivial | exact HpRep.nil | assumption) (by kernel_rfl) fun s_ hs_ => ?_
    simp (maxSteps := 10000000) [SX.vc, SX.stop, SX.contS, SX.contB, SX.sxStep, SX.stepPure, SX.stepNew, SX.stepStore, SX.guardIx, SX.evOp, SX.opd, SX.opds, SX.optOpd, SX.look, SX.putS, SX.gobs, SX.AllP, SX.leave, SX.lookT, SX.evBuiltin, SX.evBin, SX.evInt, SX.evNew, SX.evStore, SX.evSlice, SX.bnd, SX.env0, cfg54, Try.f54]
    refine ⟨by (unfold SX.Ob; first | trivial | omega | ((try simp only [SX.inK]); (try simp [SX.den, SX.IsU8, SX.AllP, *]); (try omega))), ?_⟩
    intro a1 w1 hr1 _
    have z1 : w.heap.size ≤ w1.heap.size := hr1.keeps.size
    refine post_app (C := cfg54) cfg54_ok hr1 (by first | exact wanted_none rfl | exact wanted_zero (hr1.env.same rfl rfl rfl rfl) rfl (by simp)) rfl (by simp) rfl rfl rfl rfl rfl rfl rfl rfl rfl (by decide) (flatL _) (by (try simp only [List.length_cons, List.length_nil]); omega) (fun x hx => Nat.le_trans z1 hx) (OwS.nil (d := lse0) (P := fun z => w.heap.size ≤ z)) (RdS.lit (x := x) hr1.all.1.1 rfl) [] (fun _ _ _ _ => trivial) (fun x hx => .inl hx) fun V2 a2 w2 B2 hO2 hB2 hk2 hr2 => ?_
    refine seg cfg54_ok mixed PanicFree.body 1000 [] [] hr2.rebase (by first | trivial | exact HpRep.nil | assumption) (by kernel_rfl) fun s_ hs_ => ?_
    simp (maxSteps := 10000000) [SX.vc, SX.stop, SX.contS, SX.sxStep, SX.stepPure, SX.guardIx, SX.evOp, SX.opd, SX.look, SX.putS, SX.gobs, SX.AllP, SX.leave, cfg54]
    refine ⟨by (unfold SX.Ob; first | trivial | omega | ((try simp only [SX.inK]); (try simp [SX.den, SX.IsU8, SX.AllP, *]); (try omega))), ?_⟩
    intro a3 w3 hr3' _
    have hr3 := hr2.unbase hr3'
    exact post_retn (end1 hr3 rfl rfl ⟨_, [], rfl, (hO2.keep hr3'.keeps (by simp [mutB])).mono fun z _ h => .inr h, by simp, hr3.keeps⟩).1
  · refine enter (F := frame0 w) Try.func54 rfl [.v (.slice (some ad) 0 0), .v (.int .i64 0), .sl 0 s 0 0 1 1 4] [(s, false, .arr 0 1 (fun _ => lseC x) 4 us (0, 0))] (by simp [Try.f54]) (HpAll.one hs) (keeps0 w) fun a hr => ?_
    refine seg cfg54_ok mixed PanicFree.body 1000 [false, true] [] hr (by first | trivial | exact HpRep.nil | assumption) (by kernel_rfl) fun s_ hs_ => ?_
    simp (maxSteps := 10000000) [SX.vc, SX.stop, SX.contS, SX.contB, SX.sxStep, SX.stepPure, SX.stepNew, SX.stepStore, SX.guardIx, SX.evOp, SX.opd, SX.opds, SX.optOpd, SX.look, SX.putS, SX.gobs, SX.AllP, SX.leave, SX.lookT, SX.evBuiltin, SX.evBin, SX.evInt, SX.evNew, SX.evStore, SX.evSlice, SX.bnd, SX.env0, cfg54, Try.f54]
    refine ⟨by (unfold SX.Ob; first | trivial | omega | ((try simp only [SX.inK]); (try simp [SX.den, SX.IsU8, SX.AllP, *]); (try omega))), ?_⟩
    intro a1 w1 hr1 _
    have z1 : w.heap.size ≤ w1.heap.size := hr1.keeps.size
    have hOn : OwL (fun z => w.heap.size ≤ z) w1 (.slice (some ad) 0 0) [] := .inl ⟨rfl, _, rfl⟩
    refine post_app (C := cfg54) cfg54_ok hr1 (by first | exact wanted_none rfl | exact wanted_zero (hr1.env.same rfl rfl rfl rfl) rfl (by simp)) rfl (by simp) rfl rfl rfl rfl rfl rfl rfl rfl rfl (by decide) (flatL _) (by (try simp only [List.length_cons, List.length_nil]); omega) (fun x hx => Nat.le_trans z1 hx) hOn (RdS.lit (x := x) hr1.all.1.1 rfl) [] (fun _ _ _ _ => trivial) (fun x hx => .inl hx) fun V2 a2 w2 B2 hO2 hB2 hk2 hr2 => ?_
    refine seg cfg54_ok mixed PanicFree.body 1000 [] [] hr2.rebase (by first | trivial | exact HpRep.nil | assumption) (by kernel_rfl) fun s_ hs_ => ?_
    simp (maxSteps := 10000000) [SX.vc, SX.stop, SX.contS, SX.sxStep, SX.stepPure, SX.guardIx, SX.evOp, SX.opd, SX.look, SX.putS, SX.gobs, SX.AllP, SX.leave, cfg54]
    refine ⟨by (unfold SX.Ob; first | trivial | omega | ((try simp only [SX.inK]); (try simp [SX.den, SX.IsU8, SX.AllP, *]); (try omega))), ?_⟩
    intro a3 w3 hr3' _
    have hr3 := hr2.unbase hr3'
    exact post_retn (end1 hr3 rfl rfl ⟨_, [], rfl, (hO2.keep hr3'.keeps (by simp [mutB])).mono fun z _ h => .inr h, by simp, hr3.keeps⟩).1
end Go.Proofs.L6
namespace Go.Proofs.L6
open Go Go.Proofs Go.SX Go.RowKit
theorem chk_srt {t : Tab} (h : ChkT t) : Srt t.L := fun i j hij hj => ((((chkL_iff _ _ _ _ _).1 h.1) j hj).2.2 i hij).1
def HasK (L : List Lse) (y : Int) : Prop := ∃ x ∈ L, x.k = y
instance (L : List Lse) (y : Int) : Decidable (HasK L y) := by unfold HasK; infer_instance
theorem place_has {L : List Lse} {y : Int} {i : Nat} (h : PlaceP L y i) (hs : Srt L) : isAt L y i = decide (HasK L y) := by
  obtain ⟨h1, h2⟩ := h
  obtain ⟨h3, h4⟩ := h2 hs
  rw [Bool.eq_iff_iff]
  simp only [isAt, decide_eq_true_eq]
  constructor
  · rintro ⟨a, b⟩
    exact ⟨_, nth_mem a, b⟩
  · rintro ⟨x, hx, hk⟩
    obtain ⟨j, hj, rfl⟩ := List.mem_iff_getElem.1 hx
    rw [← nth_lt (d := lse0) hj] at hk
    rcases Nat.lt_or_ge j i with hji | hji
    · have := h3 j hji
      omega
    · rcases Nat.lt_or_ge i j with hij | hij
      · have a1 := hs i j hij hj
        have a2 := h4 i (Nat.le_refl _) (by omega)
        omega
      · obtain rfl : i = j := by omega
        exact ⟨hj, hk⟩
def insK (x : Lse) (L : List Lse) : List Lse := (L.filter fun y => decide (y.k < x.k)) ++ x :: (L.filter fun y => decide (x.k < y.k))
theorem place_ins {L : List Lse} {x : Lse} {i : Nat} (h : PlaceP L x.k i) (hs : Srt L) (hn : ¬ HasK L x.k) : L.take i ++ x :: L.drop i = insK x L := by
  obtain ⟨h1, h2⟩ := h
  obtain ⟨h3, h4⟩ := h2 hs
  have e1 : L.filter (fun y => decide (y.k < x.k)) = L.take i := by
    conv => lhs; rw [← List.take_append_drop i L]
    rw [List.filter_append]
    rw [List.filter_eq_self.2, List.filter_eq_nil_iff.2, List.append_nil]
    · intro y hy
      obtain ⟨j, hj, rfl⟩ := List.mem_iff_getElem.1 hy
      simp only [List.length_drop] at hj
      have := h4 (i + j) (by omega) (by omega)
      rw [nth_lt (by omega)] at this
      simp only [List.getElem_drop, decide_eq_true_eq]
      omega
    · intro y hy
      obtain ⟨j, hj, rfl⟩ := List.mem_iff_getElem.1 hy
      simp only [List.length_take] at hj
      have := h3 j (by omega)
      rw [nth_lt (by omega)] at this
      simp only [List.getElem_take, decide_eq_true_eq]
      exact this
  have e2 : L.filter (fun y => decide (x.k < y.k)) = L.drop i := by
    conv => lhs; rw [← List.take_append_drop i L]
    rw [List.filter_append]
    rw [List.filter_eq_nil_iff.2, List.filter_eq_self.2, List.nil_append]
    · intro y hy
      obtain ⟨j, hj, rfl⟩ := List.mem_iff_getElem.1 hy
      simp only [List.length_drop] at hj
      have h5 := h4 (i + j) (by omega) (by omega)
      rw [nth_lt (by omega)] at h5
      simp only [List.getElem_drop, decide_eq_true_eq]
      have h6 : L[i + j].k ≠ x.k := fun h => hn ⟨_, List.getElem_mem _, h⟩
      omega
    · intro y hy
      obtain ⟨j, hj, rfl⟩ := List.mem_iff_getElem.1 hy
      simp only [List.length_take] at hj
      have := h3 j (by omega)
      rw [nth_lt (by omega)] at this
      simp only [List.getElem_take, decide_eq_true_eq]
      omega
  rw [insK, e1, e2]
theorem HpRep.to {H : Hp} {w w' : World} {M : List Nat} (h : HpRep H w) (hk : KeepsTo w M w') (hM : ∀ e ∈ H, e.1 ∉ M) : HpRep H w' := fun i b m o hi => hk.same (h i b m o hi) (hM _ (List.mem_of_getElem? hi))
def GoodT (t : Tab) (ttl : Int) : Prop := 1 ≤ ttl ∧ ttl ≤ 1099511627776 ∧ ChkT t
instance (t : Tab) (ttl : Int) : Decidable (GoodT t ttl) := by unfold GoodT; infer_instance
set_option maxRecDepth 100000 in
set_option maxHeartbeats 8000000 in
theorem good_ok {P : Nat → Prop} (w : World) (v : Value) (t : Tab) (ttl : Int) (hL : RdL P w v t.L) (hn : t.L.length ≤ 1000000) : Calls Try.prog 83 (denL [.ag (tabC t v), .v (.int .i64 ttl)]).toArray w (Ret w (.v (.bool (decide (GoodT t ttl))))) := by
  refine enter (F := frame0 w) Try.func83 rfl [.ag (tabC t v), .v (.int .i64 ttl)] [] (by simp [Try.f83]) trivial (keeps0 w) fun a hr => ?_
  by_cases h1 : 1 ≤ ttl
  rotate_left
  · refine seg cfg83_ok mixed PanicFree.body 1000 [] [(7, false), (11, false)] hr (by first | trivial | exact HpRep.nil | assumption) (by kernel_rfl) fun s_ hs_ => ?_
    simp (maxSteps := 10000000) [SX.vc, SX.stop, SX.contS, SX.sxStep, SX.stepPure, SX.stepNew, SX.guardIx, SX.evOp, SX.opd, SX.look, SX.putS, SX.gobs, SX.AllP, SX.leave, SX.lookB, SX.evBin, SX.evInt, SX.evNew, SX.SV.cells, SX.evPick, SX.cnd, SX.env0, Go.undef, cfg83, Try.f83, tabC, h1]
    refine ⟨by (unfold SX.Ob; first | trivial | omega | ((try simp only [SX.inK]); (try simp [SX.den, SX.IsU8, SX.AllP, *]); (try omega))), ?_⟩
    intro a1 w1 hr1 _
    exact post_retn (end1 hr1 rfl rfl ⟨ret_dec (by simp [GoodT, h1]), hr1.keeps.toBelow⟩).1
  by_cases h2 : ttl ≤ 1099511627776
  rotate_left
  · refine seg cfg83_ok mixed PanicFree.body 1000 [] [(7, true), (11, false)] hr (by first | trivial | exact HpRep.nil | assumption) (by kernel_rfl) fun s_ hs_ => ?_
    simp (maxSteps := 10000000) [SX.vc, SX.stop, SX.contS, SX.sxStep, SX.stepPure, SX.stepNew, SX.guardIx, SX.evOp, SX.opd, SX.look, SX.putS, SX.gobs, SX.AllP, SX.leave, SX.lookB, SX.evBin, SX.evInt, SX.evNew, SX.SV.cells, SX.evPick, SX.cnd, SX.env0, Go.undef, cfg83, Try.f83, tabC, h1, h2]
    refine ⟨by (unfold SX.Ob; first | trivial | omega | ((try simp only [SX.inK]); (try simp [SX.den, SX.IsU8, SX.AllP, *]); (try omega))), ?_⟩
    intro a1 w1 hr1 _
    exact post_retn (end1 hr1 rfl rfl ⟨ret_dec (by simp [GoodT, h2]), hr1.keeps.toBelow⟩).1
  refine seg cfg83_ok mixed PanicFree.body 1000 [] [(7, true), (11, true)] hr (by first | trivial | exact HpRep.nil | assumption) (by kernel_rfl) fun s_ hs_ => ?_
  simp (maxSteps := 10000000) [SX.vc, SX.stop, SX.contS, SX.sxStep, SX.stepPure, SX.stepNew, SX.stepStore, SX.guardIx, SX.evOp, SX.opd, SX.look, SX.putS, SX.gobs, SX.AllP, SX.leave, SX.lookB, SX.lookT, SX.evBin, SX.evInt, SX.evLoad, SX.shapeUp, SX.evNew, SX.evStore, SX.SV.cells, SX.evPick, SX.cnd, SX.env0, SX.TD.isAgg, cfg83, Try.f83, tabC, h1, h2]
  refine ⟨by (unfold SX.Ob; first | trivial | omega | ((try simp only [SX.inK]); (try simp [SX.den, SX.IsU8, SX.AllP, *]); (try omega))), ?_⟩
  intro a1 w1 hr1 _
  refine post_call 76 [.ag [.v (.int .i64 t.last), .v (.int .i64 t.now), .v v]] hr1 (by first | exact wanted_none rfl | exact wanted_zero (hr1.env.same rfl rfl rfl rfl) rfl (by simp) | exact wanted_zero (hr1.env.same rfl rfl rfl rfl) rfl (by simp [*])) rfl (callable 76 Try.func76) (check_ok w1 v t (hL.below hr1.keeps.toBelow) (by omega)) ?_
  rintro e2 w2 ⟨rfl, hb2⟩
  refine ⟨_, rfl, ?_⟩
  have h2' := hr1.ret hb2 13 (.v (.int .i64 (chkT t))) rfl _ (hr1.all.below hb2) (by simp) rfl
  by_cases hC : ChkT t
  · have hc : chkT t = 0 := if_pos hC
    refine seg cfg83_ok mixed PanicFree.body 1000 [] [(7, true), (11, true)] h2' (by first | trivial | exact HpRep.nil | assumption) (by kernel_rfl) fun s_ hs_ => ?_
    simp (maxSteps := 10000000) [SX.vc, SX.stop, SX.contS, SX.sxStep, SX.stepPure, SX.guardIx, SX.evOp, SX.opd, SX.look, SX.putS, SX.gobs, SX.AllP, SX.leave, SX.lookB, SX.evBin, SX.evInt, SX.evPick, SX.cnd, cfg83, hc]
    refine ⟨by (unfold SX.Ob; first | trivial | omega | ((try simp only [SX.inK]); (try simp [SX.den, SX.IsU8, SX.AllP, *]); (try omega))), ?_⟩
    intro a3 w3 hr3 _
    exact post_retn (end1 hr3 rfl rfl ⟨ret_dec (by simp [GoodT, h1, h2, hC]), hr3.keeps.toBelow⟩).1
  · have hc : chkT t = 1 := if_neg hC
    refine seg cfg83_ok mixed PanicFree.body 1000 [] [(7, true), (11, true)] h2' (by first | trivial | exact HpRep.nil | assumption) (by kernel_rfl) fun s_ hs_ => ?_
    simp (maxSteps := 10000000) [SX.vc, SX.stop, SX.contS, SX.sxStep, SX.stepPure, SX.guardIx, SX.evOp, SX.opd, SX.look, SX.putS, SX.gobs, SX.AllP, SX.leave, SX.lookB, SX.evBin, SX.evInt, SX.evPick, SX.cnd, cfg83, hc]
    refine ⟨by (unfold SX.Ob; first | trivial | omega | ((try simp only [SX.inK]); (try simp [SX.den, SX.IsU8, SX.AllP, *]); (try omega))), ?_⟩
    intro a3 w3 hr3 _
    exact post_retn (end1 hr3 rfl rfl ⟨ret_dec (by simp [GoodT, hC]), hr3.keeps.toBelow⟩).1
def GrantOK (t : Tab) (key host ttl : Int) : Prop := GoodT t ttl ∧ 0 ≤ key ∧ 0 ≤ host ∧ host < 8
instance (t : Tab) (key host ttl : Int) : Decidable (GrantOK t key host ttl) := by unfold GrantOK; infer_instance
def grantE (t : Tab) (key host ttl : Int) : Int := if GrantOK t key host ttl then (if HasK t.L key then 60 else 0) else 1
def newX (t : Tab) (key host ttl : Int) : Lse := ⟨key, host, t.last + 1, t.now + ttl⟩
def grantX (t : Tab) (key host ttl : Int) : Lse := if grantE t key host ttl = 0 then newX t key host ttl else lse0
def grantT (t : Tab) (key host ttl : Int) : Tab := if grantE t key host ttl = 0 then ⟨t.last + 1, t.now, insK (newX t key host ttl) t.L⟩ else tab0
def GrantR (w : World) (t : Tab) (key host ttl : Int) (e : Ending) (w' : World) : Prop :=
  ∃ v1, e = .returned (den (.tu [.ag (tabC (grantT t key host ttl) v1), .ag (lseC (grantX t key host ttl)), .v (.int .i64 (grantE t key host ttl))])) ∧ RdL (fun x => w.heap.size ≤ x) w' v1 (grantT t key host ttl).L ∧ Below w.heap.size w w'
set_option maxRecDepth 100000 in
set_option maxHeartbeats 16000000 in
theorem Grant_ok {P : Nat → Prop} (w : World) (v : Value) (t : Tab) (key host ttl : Int) (hL : RdL P w v t.L) (hn : t.L.length ≤ 100000) (hl1 : t.last ≤ 2305843009213693952) (hl2 : t.now ≤ 2305843009213693952) : Calls Try.prog 66 (denL [.ag (tabC t v), .v (.int .i64 key), .v (.int .i64 host), .v (.int .i64 ttl)]).toArray w (GrantR w t key host ttl) := by
  refine enter (F := frame0 w) Try.func66 rfl [.ag (tabC t v), .v (.int .i64 key), .v (.int .i64 host), .v (.int .i64 ttl)] [] (by simp [Try.f66]) trivial (keeps0 w) fun a hr => ?_
  obtain ⟨ad, cp, rfl⟩ := hL.slice
  refine seg cfg66_ok mixed PanicFree.body 1000 [] [] hr (by first | trivial | exact HpRep.nil | assumption) (by kernel_rfl) fun sA hsA => ?_
  simp (maxSteps := 10000000) [SX.vc, SX.stop, SX.contS, SX.sxStep, SX.stepPure, SX.stepNew, SX.stepStore, SX.guardIx, SX.evOp, SX.opd, SX.look, SX.putS, SX.gobs, SX.AllP, SX.leave, SX.lookT, SX.evLoad, SX.shapeUp, SX.cellsV, SX.evNew, SX.evStore, SX.SV.cells, SX.env0, SX.TD.isAgg, Go.Value.cells, cfg66, Try.f66, tabC]
  refine ⟨by (unfold SX.Ob; first | trivial | omega | ((try simp only [SX.inK]); (try simp [SX.den, SX.IsU8, SX.AllP, *]); (try omega))), ?_⟩
  intro a1 w1 hr1 _
  refine post_call 83 [.ag [.v (.int .i64 t.last), .v (.int .i64 t.now), .v (.slice ad t.L.length cp)], .v (.int .i64 ttl)] hr1 (by first | exact wanted_none rfl | exact wanted_zero (hr1.env.same rfl rfl rfl rfl) rfl (by simp) | exact wanted_zero (hr1.env.same rfl rfl rfl rfl) rfl (by simp [*])) rfl (callable 83 Try.func83) (good_ok w1 _ t ttl (hL.below hr1.keeps.toBelow) (by omega)) ?_
  rintro e2 w2 ⟨rfl, hb2⟩
  refine ⟨_, rfl, ?_⟩
  have h2 := hr1.ret hb2 16 (.v (.bool (decide (GoodT t ttl)))) rfl _ (hr1.all.below hb2) (by simp) rfl
  have bad : ¬ GrantOK t key host ttl → grantE t key host ttl = 1 ∧ grantX t key host ttl = lse0 ∧ grantT t key host ttl = tab0 := fun h => by
    have h1 : grantE t key host ttl = 1 := if_neg h
    exact ⟨h1, if_neg (by omega), if_neg (by omega)⟩
  by_cases hGd : GoodT t ttl
  rotate_left
  · obtain ⟨hE, hX, hT⟩ := bad fun h => hGd h.1
    refine seg cfg66_ok mixed PanicFree.body 1000 [true] [(18, true), (22, true), (26, true)] h2 (by first | trivial | exact HpRep.nil | assumption) (by kernel_rfl) fun s_ hs_ => ?_
    simp (maxSteps := 10000000) [SX.vc, SX.stop, SX.contS, SX.contB, SX.sxStep, SX.stepPure, SX.stepNew, SX.stepStore, SX.guardIx, SX.evOp, SX.opd, SX.opds, SX.look, SX.putS, SX.gobs, SX.AllP, SX.leave, SX.lookB, SX.lookT, SX.evFill, SX.evBuild, SX.szs, SX.cellsV, SX.evNew, SX.evStore, SX.spliceL, SX.SV.cells, SX.evUn, SX.evPick, SX.cnd, SX.NotAgg, Go.Value.cells, Go.undef, cfg66, hGd]
    refine ⟨by (unfold SX.Ob; first | trivial | omega | ((try simp only [SX.inK]); (try simp [SX.den, SX.IsU8, SX.AllP, *]); (try omega))), ?_⟩
    intro a3 w3 hr3 _
    exact post_retn (endC3 hr3 rfl rfl rfl tok27 rfl rfl tok38 rfl rfl rfl ⟨.slice none 0 0, by rw [hE, hX, hT]; simp [den, denL, tabC, tab0, lseC, lse0], by rw [hT]; exact OwS.nil.rd, hr3.keeps.toBelow⟩).1
  by_cases c1 : key < 0
  · obtain ⟨hE, hX, hT⟩ := bad fun h => by have := h.2.1; omega
    refine seg cfg66_ok mixed PanicFree.body 1000 [true] [(18, false), (22, true), (26, true)] h2 (by first | trivial | exact HpRep.nil | assumption) (by kernel_rfl) fun s_ hs_ => ?_
    simp (maxSteps := 10000000) [SX.vc, SX.stop, SX.contS, SX.contB, SX.sxStep, SX.stepPure, SX.stepNew, SX.stepStore, SX.guardIx, SX.evOp, SX.opd, SX.opds, SX.look, SX.putS, SX.gobs, SX.AllP, SX.leave, SX.lookB, SX.lookT, SX.evBin, SX.evInt, SX.evFill, SX.evBuild, SX.szs, SX.cellsV, SX.evNew, SX.evStore, SX.spliceL, SX.SV.cells, SX.evUn, SX.evPick, SX.cnd, SX.NotAgg, Go.Value.cells, Go.undef, cfg66, hGd, c1]
    refine ⟨by (unfold SX.Ob; first | trivial | omega | ((try simp only [SX.inK]); (try simp [SX.den, SX.IsU8, SX.AllP, *]); (try omega))), ?_⟩
    intro a3 w3 hr3 _
    exact post_retn (endC3 hr3 rfl rfl rfl tok27 rfl rfl tok38 rfl rfl rfl ⟨.slice none 0 0, by rw [hE, hX, hT]; simp [den, denL, tabC, tab0, lseC, lse0], by rw [hT]; exact OwS.nil.rd, hr3.keeps.toBelow⟩).1
  by_cases c2 : host < 0
  · obtain ⟨hE, hX, hT⟩ := bad fun h => by have := h.2.2.1; omega
    refine seg cfg66_ok mixed PanicFree.body 1000 [true] [(18, false), (22, false), (26, true)] h2 (by first | trivial | exact HpRep.nil | assumption) (by kernel_rfl) fun s_ hs_ => ?_
    simp (maxSteps := 10000000) [SX.vc, SX.stop, SX.contS, SX.contB, SX.sxStep, SX.stepPure, SX.stepNew, SX.stepStore, SX.guardIx, SX.evOp, SX.opd, SX.opds, SX.look, SX.putS, SX.gobs, SX.AllP, SX.leave, SX.lookB, SX.lookT, SX.evBin, SX.evInt, SX.evFill, SX.evBuild, SX.szs, SX.cellsV, SX.evNew, SX.evStore, SX.spliceL, SX.SV.cells, SX.evUn, SX.evPick, SX.cnd, SX.NotAgg, Go.Value.cells, Go.undef, cfg66, hGd, c1, c2]
    refine ⟨by (unfold SX.Ob; first | trivial | omega | ((try simp only [SX.inK]); (try simp [SX.den, SX.IsU8, SX.AllP, *]); (try omega))), ?_⟩
    intro a3 w3 hr3 _
    exact post_retn (endC3 hr3 rfl rfl rfl tok27 rfl rfl tok38 rfl rfl rfl ⟨.slice none 0 0, by rw [hE, hX, hT]; simp [den, denL, tabC, tab0, lseC, lse0], by rw [hT]; exact OwS.nil.rd, hr3.keeps.toBelow⟩).1
  by_cases c3 : 8 ≤ host
  · obtain ⟨hE, hX, hT⟩ := bad fun h => by have := h.2.2.2; omega
    refine seg cfg66_ok mixed PanicFree.body 1000 [true] [(18, false), (22, false), (26, false)] h2 (by first | trivial | exact HpRep.nil | assumption) (by kernel_rfl) fun s_ hs_ => ?_
    simp (maxSteps := 10000000) [SX.vc, SX.stop, SX.contS, SX.contB, SX.sxStep, SX.stepPure, SX.stepNew, SX.stepStore, SX.guardIx, SX.evOp, SX.opd, SX.opds, SX.look, SX.putS, SX.gobs, SX.AllP, SX.leave, SX.lookB, SX.lookT, SX.evBin, SX.evInt, SX.evFill, SX.evBuild, SX.szs, SX.cellsV, SX.evNew, SX.evStore, SX.spliceL, SX.SV.cells, SX.evUn, SX.evPick, SX.cnd, SX.NotAgg, Go.Value.cells, cfg66, hGd, c1, c2, c3]
    refine ⟨by (unfold SX.Ob; first | trivial | omega | ((try simp only [SX.inK]); (try simp [SX.den, SX.IsU8, SX.AllP, *]); (try omega))), ?_⟩
    intro a3 w3 hr3 _
    exact post_retn (endC3 hr3 rfl rfl rfl tok27 rfl rfl tok38 rfl rfl rfl ⟨.slice none 0 0, by rw [hE, hX, hT]; simp [den, denL, tabC, tab0, lseC, lse0], by rw [hT]; exact OwS.nil.rd, hr3.keeps.toBelow⟩).1
  have hOK : GrantOK t key host ttl := ⟨hGd, by omega, by omega, by omega⟩
  have hC := hGd.2.2
  have hsr := chk_srt hC
  have hg1 := hGd.1
  have hg2 := hGd.2.1
  have hl0 := hC.2.1
  have hn0 := hC.2.2
  refine seg cfg66_ok mixed PanicFree.body 1000 [false] [(18, false), (22, false), (26, false)] h2 (by first | trivial | exact HpRep.nil | assumption) (by kernel_rfl) fun s_ hs_ => ?_
  simp (maxSteps := 10000000) [SX.vc, SX.stop, SX.contS, SX.contB, SX.sxStep, SX.stepPure, SX.stepNew, SX.stepStore, SX.guardIx, SX.evOp, SX.opd, SX.look, SX.putS, SX.gobs, SX.AllP, SX.leave, SX.lookB, SX.lookT, SX.evBin, SX.evInt, SX.evLoad, SX.shapeUp, SX.evNew, SX.evStore, SX.evUn, SX.evPick, SX.cnd, SX.TD.isAgg, cfg66, hGd, c1, c2, c3]
  refine ⟨by (unfold SX.Ob; first | trivial | omega | ((try simp only [SX.inK]); (try simp [SX.den, SX.IsU8, SX.AllP, *]); (try omega))), ?_⟩
  intro a3 w3 hr3 _
  refine post_call 84 [.ag [.v (.int .i64 t.last), .v (.int .i64 t.now), .v (.slice ad t.L.length cp)], .v (.int .i64 key)] hr3 (by first | exact wanted_none rfl | exact wanted_zero (hr3.env.same rfl rfl rfl rfl) rfl (by simp) | exact wanted_zero (hr3.env.same rfl rfl rfl rfl) rfl (by simp [*])) rfl (callable 84 Try.func84) (find_ok w3 _ t key (hL.below hr3.keeps.toBelow) (by omega)) ?_
  rintro e4 w4 ⟨i, rfl, hpl, hb4⟩
  refine ⟨_, rfl, ?_⟩
  have h4 := hr3.ret hb4 35 (.tu [.v (.int .i64 i), .v (.bool (isAt t.L key i))]) rfl _ (hr3.all.below hb4) (by simp) rfl
  have hat := place_has hpl hsr
  have hil := hpl.1
  by_cases hH : HasK t.L key
  · have hE : grantE t key host ttl = 60 := by rw [grantE, if_pos hOK, if_pos hH]
    have hX : grantX t key host ttl = lse0 := if_neg (by omega)
    have hT : grantT t key host ttl = tab0 := if_neg (by omega)
    have hat' : isAt t.L key i = true := by rw [hat]; simpa using hH
    refine seg cfg66_ok mixed PanicFree.body 1000 [true] [] h4 (by first | trivial | exact HpRep.nil | assumption) (by kernel_rfl) fun s_ hs_ => ?_
    simp (maxSteps := 10000000) [SX.vc, SX.stop, SX.contS, SX.contB, SX.sxStep, SX.stepPure, SX.stepNew, SX.stepStore, SX.guardIx, SX.evOp, SX.opd, SX.opds, SX.look, SX.putS, SX.gobs, SX.AllP, SX.leave, SX.lookT, SX.evFill, SX.evBuild, SX.szs, SX.cellsV, SX.evNew, SX.evStore, SX.spliceL, SX.SV.cells, SX.NotAgg, Go.Value.cells, cfg66, hat']
    refine ⟨by (unfold SX.Ob; first | trivial | omega | ((try simp only [SX.inK]); (try simp [SX.den, SX.IsU8, SX.AllP, *]); (try omega))), ?_⟩
    intro a5 w5 hr5 _
    exact post_retn (endC3 hr5 rfl rfl rfl tok27 rfl rfl tok38 rfl rfl rfl ⟨.slice none 0 0, by rw [hE, hX, hT]; simp [den, denL, tabC, tab0, lseC, lse0], by rw [hT]; exact OwS.nil.rd, hr5.keeps.toBelow⟩).1
  have hE : grantE t key host ttl = 0 := by rw [grantE, if_pos hOK, if_neg hH]
  have hX : grantX t key host ttl = newX t key host ttl := if_pos hE
  have hT : grantT t key host ttl = ⟨t.last + 1, t.now, insK (newX t key host ttl) t.L⟩ := if_pos hE
  have hat' : isAt t.L key i = false := by rw [hat]; simpa using hH
  have hins := place_ins (x := newX t key host ttl) hpl hsr hH
  refine seg cfg66_ok mixed PanicFree.body 1000 [false] [] h4 (by first | trivial | exact HpRep.nil | assumption) (by kernel_rfl) fun s_ hs_ => ?_
  simp (maxSteps := 10000000) [SX.vc, SX.stop, SX.contS, SX.contB, SX.contR, SX.contD, SX.sxStep, SX.stepPure, SX.stepNew, SX.stepStore, SX.guardIx, SX.evOp, SX.opd, SX.opds, SX.look, SX.putS, SX.gobs, SX.AllP, SX.leave, SX.lookT, SX.lookN, SX.evBin, SX.evInt, SX.arith, SX.evLoad, SX.shapeUp, SX.evFieldAddr, SX.evFill, SX.evBuild, SX.szs, SX.cellsV, SX.evNew, SX.evStore, SX.spliceL, SX.SV.cells, SX.TD.isAgg, SX.NotAgg, SX.thaw, SX.fork, Go.Value.cells, cfg66, hat']
  refine ⟨by (unfold SX.Ob; first | trivial | omega | ((try simp only [SX.inK]); (try simp [SX.den, SX.IsU8, SX.AllP, *]); (try omega))), ?_⟩
  intro a5 w5 hr5 ht5
  have hA5 := hr5.all
  have z5 : w.heap.size ≤ w5.heap.size := hr5.keeps.size
  have k0 := SO.rep_lt hA5.1.1
  have k1 := SO.rep_lt hA5.2.1.1
  have k2 := SO.rep_lt hA5.2.2.1.1
  have k3 := SO.rep_lt hA5.2.2.2.1.1
  refine post_both ?_ ?_
  · refine post_callD 40 [.v (.slice ad t.L.length cp)] hr5 rfl (by first | exact wanted_none rfl | exact wanted_zero (hr5.env.same rfl rfl rfl rfl) rfl (by simp) | exact wanted_zero (hr5.env.same rfl rfl rfl rfl) rfl (by simp [*])) rfl (callable 40 Try.func40) (clone_all w5 _ t.L (hL.below hr5.keeps.toBelow) (by omega)) ?_
    rintro e6 w6 ⟨v6, rfl, hO6, hb6⟩
    have ht6 := HpRep_below ht5 hb6
    refine ⟨_, rfl, ht6, ?_⟩
    have hr6 := hr5.ret hb6 56 (.v v6) rfl _ (hr5.all.below hb6) (by simp) rfl
    have z56 : w5.heap.size ≤ w6.heap.size := hb6.size
    have hO6' := hO6.mono (P' := fun x => w5.heap.size ≤ x ∧ x < w6.heap.size) fun x h1 h2 => ⟨h2, h1⟩
    refine seg cfg66_ok mixed PanicFree.body 1000 [] [] hr6.rebase (by first | trivial | exact HpRep.nil | assumption) (by kernel_rfl) fun sL hsL => ?_
    simp (maxSteps := 10000000) [SX.vc, SX.stop, SX.contS, SX.contR, SX.contD, SX.sxStep, SX.stepPure, SX.stepNew, SX.stepStore, SX.stepKeep, SX.guardIx, SX.evOp, SX.opd, SX.opds, SX.look, SX.putS, SX.gobs, SX.AllP, SX.leave, SX.lookT, SX.lookN, SX.evLoad, SX.shapeUp, SX.evFieldAddr, SX.evNew, SX.evStore, SX.spliceL, SX.SV.cells, SX.TD.isAgg, SX.tails, SX.NotAgg, SX.thaw, SX.frz, SX.fixB, SX.rootIx, SX.Froz, SX.frzStep, SX.fork, cfg66]
    refine ⟨by (unfold SX.Ob; first | trivial | omega | ((try simp only [SX.inK]); (try simp [SX.den, SX.IsU8, SX.AllP, *]); (try omega))), ?_⟩
    intro a7 w7 hr7' ht7
    have hr7 := hr6.unbase hr7'
    have z67 : w6.heap.size ≤ w7.heap.size := hr7'.keeps.size
    have hO7 := hO6'.keep hr7'.keeps (by simp [mutB]; omega)
    have hsL : w6.heap.size ≤ sL := by
      rcases hr7'.all.2.2.2.2.1.2.1 rfl with h | h
      · exact h
      · simp [frameAt, mutB] at h; omega
    have hsQ : ¬ (w5.heap.size ≤ sL ∧ sL < w6.heap.size) := fun h => by omega
    have hs7 : (SO.arr 0 1 (fun _ => lseC (newX t key host ttl)) 4 38 (0, 0)).rep w7 sL := rep_arr_sub hr7.all.2.2.2.2.1.1 (Nat.le_refl _) (fun j hj => by
      obtain rfl : j = 0 := by omega
      simp [lseC, newX])
    have hins7 := insert_ok w7 v6 t.L hO7 i hil (by omega) sL 38 (newX t key host ttl) hs7 hsQ
    rw [hins] at hins7
    refine post_callD 54 [.v v6, .v (.int .i64 i), .sl 4 sL 0 0 1 1 4] hr7 rfl (wanted_none rfl) rfl (callable 54 Try.func54) hins7 ?_
    rintro e8 w8 ⟨V, B, rfl, hO8, hB, hk8⟩
    have hBge : ∀ x ∈ B, w5.heap.size ≤ x := fun x hx => (hB x hx).1.1
    have z8 : w7.heap.size ≤ w8.heap.size := hk8.size
    have ht8 := HpRep.to ht7 hk8 (fun e he hb => by
      have := hBge _ hb
      simp [thaw] at he
      rcases he with rfl | rfl | rfl | rfl <;> (simp at this; omega))
    refine ⟨_, rfl, ht8, ?_⟩
    have h8 := hr7.retK hk8 (fun x hx => .inl (Nat.le_trans z5 (hBge x hx))) 60 (.v V) rfl _ (HpAll.to hk8 (hr7.all.take 4) (fun e he hb => by
      have := hBge _ hb
      simp at he
      rcases he with rfl | rfl | rfl | rfl <;> (simp at this; omega))) (by simp) rfl
    obtain ⟨adV, cpV, rfl⟩ := hO8.slice
    have hO8' := hO8.rd.mono (P' := fun x => w5.heap.size ≤ x) fun x _ h => by
      rcases h with h | h
      · exact h.1
      · omega
    refine seg cfg66_ok mixed PanicFree.body 1000 [] [] h8.rebase (by first | trivial | exact HpRep.nil | assumption) (by kernel_rfl) fun s_ hs_ => ?_
    simp (maxSteps := 10000000) [SX.vc, SX.stop, SX.contS, SX.contR, SX.contD, SX.sxStep, SX.stepPure, SX.stepNew, SX.stepStore, SX.stepKeep, SX.guardIx, SX.evOp, SX.opd, SX.opds, SX.look, SX.putS, SX.gobs, SX.AllP, SX.leave, SX.lookT, SX.lookN, SX.evLoad, SX.shapeUp, SX.evFieldAddr, SX.evNew, SX.evStore, SX.spliceL, SX.SV.cells, SX.TD.isAgg, SX.tails, SX.NotAgg, SX.thaw, SX.frz, SX.fixB, SX.rootIx, SX.Froz, SX.frzStep, SX.fork, cfg66]
    refine ⟨by (unfold SX.Ob; first | trivial | omega | ((try simp only [SX.inK]); (try simp [SX.den, SX.IsU8, SX.AllP, *]); (try omega))), ?_⟩
    intro a9 w9 hr9' _
    have hr9 := h8.unbase hr9'
    have hO9 := hO8'.keep hr9'.keeps (by simp [mutB]; omega)
    exact post_retn (endC3 hr9 rfl rfl rfl tok27 rfl rfl tok38 rfl rfl rfl ⟨.slice adV (insK (newX t key host ttl) t.L).length cpV, by rw [hE, hX, hT]; simp [den, denL, tabC, lseC, newX], by rw [hT]; exact hO9.mono fun x _ h => by omega, hr9.keeps.toBelow⟩).1
  · refine seg cfg66_ok mixed PanicFree.body 1000 [] [] hr5.rebase (by first | trivial | exact HpRep.nil | assumption) (by kernel_rfl) fun sL hsL => ?_
    simp (maxSteps := 10000000) [SX.vc, SX.stop, SX.contS, SX.contR, SX.contD, SX.sxStep, SX.stepPure, SX.stepNew, SX.stepStore, SX.stepKeep, SX.guardIx, SX.evOp, SX.opd, SX.opds, SX.look, SX.putS, SX.gobs, SX.AllP, SX.leave, SX.lookT, SX.lookN, SX.evLoad, SX.shapeUp, SX.evFieldAddr, SX.evNew, SX.evStore, SX.spliceL, SX.SV.cells, SX.TD.isAgg, SX.tails, SX.NotAgg, SX.thaw, SX.frz, SX.fixB, SX.rootIx, SX.Froz, SX.frzStep, SX.fork, cfg66]
    refine ⟨by (unfold SX.Ob; first | trivial | omega | ((try simp only [SX.inK]); (try simp [SX.den, SX.IsU8, SX.AllP, *]); (try omega))), ?_⟩
    intro a6 w6 hr6' ht6
    have hr6 := hr5.unbase hr6'
    have z56 : w5.heap.size ≤ w6.heap.size := hr6'.keeps.size
    refine post_callD 40 [.v (.slice ad t.L.length cp)] hr6 rfl (by first | exact wanted_none rfl | exact wanted_zero (hr6.env.same rfl rfl rfl rfl) rfl (by simp) | exact wanted_zero (hr6.env.same rfl rfl rfl rfl) rfl (by simp [*])) rfl (callable 40 Try.func40) (clone_all w6 _ t.L (hL.below hr6.keeps.toBelow) (by omega)) ?_
    rintro e7 w7 ⟨v6, rfl, hO7a, hb7⟩
    have ht7 := HpRep_below ht6 hb7
    refine ⟨_, rfl, ht7, ?_⟩
    have hr7 := hr6.ret hb7 56 (.v v6) rfl _ (hr6.all.below hb7) (by simp) rfl
    have z67 : w6.heap.size ≤ w7.heap.size := hb7.size
    have hO7 := hO7a.mono (P' := fun x => w5.heap.size ≤ x ∧ w6.heap.size ≤ x) fun x h1 h2 => ⟨by omega, h2⟩
    have hsL6 := SO.rep_lt hr6.all.2.2.2.2.1.1
    have hsQ : ¬ (w5.heap.size ≤ sL ∧ w6.heap.size ≤ sL) := fun h => by omega
    have hs7 : (SO.arr 0 1 (fun _ => lseC (newX t key host ttl)) 4 38 (0, 0)).rep w7 sL := rep_arr_sub hr7.all.2.2.2.2.1.1 (Nat.le_refl _) (fun j hj => by
      obtain rfl : j = 0 := by omega
      simp [lseC, newX])
    have hins7 := insert_ok w7 v6 t.L hO7 i hil (by omega) sL 38 (newX t key host ttl) hs7 hsQ
    rw [hins] at hins7
    refine post_callD 54 [.v v6, .v (.int .i64 i), .sl 4 sL 0 0 1 1 4] hr7 rfl (wanted_none rfl) rfl (callable 54 Try.func54) hins7 ?_
    rintro e8 w8 ⟨V, B, rfl, hO8, hB, hk8⟩
    have hBge : ∀ x ∈ B, w5.heap.size ≤ x := fun x hx => (hB x hx).1.1
    have z8 : w7.heap.size ≤ w8.heap.size := hk8.size
    have ht8 := HpRep.to ht7 hk8 (fun e he hb => by
      have := hBge _ hb
      simp [thaw] at he
      rcases he with rfl | rfl | rfl | rfl <;> (simp at this; omega))
    refine ⟨_, rfl, ht8, ?_⟩
    have h8 := hr7.retK hk8 (fun x hx => .inl (Nat.le_trans z5 (hBge x hx))) 60 (.v V) rfl _ (HpAll.to hk8 (hr7.all.take 4) (fun e he hb => by
      have := hBge _ hb
      simp at he
      rcases he with rfl | rfl | rfl | rfl <;> (simp at this; omega))) (by simp) rfl
    obtain ⟨adV, cpV, rfl⟩ := hO8.slice
    have hO8' := hO8.rd.mono (P' := fun x => w5.heap.size ≤ x) fun x _ h => by
      rcases h with h | h
      · exact h.1
      · omega
    refine seg cfg66_ok mixed PanicFree.body 1000 [] [] h8.rebase (by first | trivial | exact HpRep.nil | assumption) (by kernel_rfl) fun s_ hs_ => ?_
    simp (maxSteps := 10000000) [SX.vc, SX.stop, SX.contS, SX.contR, SX.contD, SX.sxStep, SX.stepPure, SX.stepNew, SX.stepStore, SX.stepKeep, SX.guardIx, SX.evOp, SX.opd, SX.opds, SX.look, SX.putS, SX.gobs, SX.AllP, SX.leave, SX.lookT, SX.lookN, SX.evLoad, SX.shapeUp, SX.evFieldAddr, SX.evNew, SX.evStore, SX.spliceL, SX.SV.cells, SX.TD.isAgg, SX.tails, SX.NotAgg, SX.thaw, SX.frz, SX.fixB, SX.rootIx, SX.Froz, SX.frzStep, SX.fork, cfg66]
    refine ⟨by (unfold SX.Ob; first | trivial | omega | ((try simp only [SX.inK]); (try simp [SX.den, SX.IsU8, SX.AllP, *]); (try omega))), ?_⟩
    intro a9 w9 hr9' _
    have hr9 := h8.unbase hr9'
    have hO9 := hO8'.keep hr9'.keeps (by simp [mutB]; omega)
    exact post_retn (endC3 hr9 rfl rfl rfl tok27 rfl rfl tok38 rfl rfl rfl ⟨.slice adV (insK (newX t key host ttl) t.L).length cpV, by rw [hE, hX, hT]; simp [den, denL, tabC, lseC, newX], by rw [hT]; exact hO9.mono fun x _ h => by omega, hr9.keeps.toBelow⟩).1
end Go.Proofs.L6
namespace Go.Proofs.L6
open Go Go.Proofs Go.SX Go.RowKit
theorem mutB_lt {F : Fr} {w : World} : ∀ {H : Hp}, HpAll F w H → ∀ x ∈ mutB H, x < w.heap.size
  | [], _, x, hx => by simp [mutB] at hx
  | (b, m, o) :: H, h, x, hx => by
    simp only [mutB, List.filter_cons] at hx
    split at hx
    · rcases List.mem_cons.1 hx with rfl | hx
      · exact SO.rep_lt h.1.1
      · exact mutB_lt h.2 x hx
    · exact mutB_lt h.2 x hx
end Go.Proofs.L6
namespace Go.Proofs.L6
open Go Go.Proofs Go.SX Go.RowKit
theorem RepX.appSelf {P : Program} {C : Cfg} (htt : TTok P C.tt) {F : Fr} {st : St} {o : Oper} {a : Act} {w : World} (hr : RepX F st a w) {t t' : TypeId} {i b len cap base2 n cap2 sz N u : Nat} {row : Nat → List SV}
    (he : evApp st o.op = some (.sl i b 0 0 len cap sz, .sl i b 0 base2 n cap2 sz, t, t')) {e e' : TypeId} {ti ti' te : TI} (ht : lookT C.tt t = some ti) (hd1 : ti.d = .slice e) (ht' : lookT C.tt t' = some ti') (hd2 : ti'.d = .slice e') (hte : lookT C.tt e = some te) (hz : te.zero.cells.size = te.sz) (hsz : te.sz = sz) (hby : te.by_ ≠ 0)
    (hi : st.hp[i]? = some (b, true, .arr 0 N row sz u (0, 0))) (hroom : len + n ≤ cap) (hcap : cap ≤ N) (hn : base2 + n ≤ N) (hna : ∀ j, j < n → ∀ x ∈ row (base2 + j), NotAgg (den x)) :
    ∃ w', (execOp a.eval o).run P w = .ok (.value (.slice (some ⟨b, 0, none⟩) (len + n) cap)) w' ∧ RepX F { st with hp := st.hp.set i (b, true, .arr 0 N (copyRow row row len base2 n) sz u (0, 0)) } a w' := by
  subst hsz
  obtain ⟨c, hb, hr1⟩ := hr.hp i b true _ hi
  have hA : AppArgs P w e te (.slice (some ⟨b, 0 + base2 * te.sz, none⟩) n cap2) row base2 n := ⟨htt _ _ hte, hz, hby, b, c, cap2, u, (0, 0), 0, N, rfl, hb, hr1, hn⟩
  have h1 := Go.SX.run_append_room (P := P) (w := w) (ty := o.type) (len := len) ((htt _ _ ht).slice hd1) ((htt _ _ ht').slice hd2) hA hb hr1 hcap hroom hna
  have e1 := evApp_sound (P := P) (hr.env.same (st' := st) rfl rfl rfl rfl) he w
  simp only [den, Nat.zero_mul, Nat.zero_add] at e1 h1
  rw [h1] at e1
  simp only [Result.andThen_ok] at e1
  have hm := hr.mem.store hi (new := .arr 0 N (copyRow row row len base2 n) te.sz u (0, 0)) (o := .cells (putAll c (len * te.sz) (rowsOf row base2 n)) u (0, 0)) ⟨_, putBlk_same (lt_of_heap hb), hr1.of_room (by omega) fun q hq => (hr1.2 (base2 + q) (by omega)).1⟩
  refine ⟨_, e1, Rep.of_mem (hr.env.same rfl rfl rfl rfl) ?_⟩
  refine ⟨hm.hp, hm.mu, hm.nd, ?_, hm.kp⟩
  simp [putBlk_size]
theorem post_appSelfD {P : Program} {C : Cfg} (htt : TTok P C.tt) {Q : Exit → Act → World → Prop} {F : Fr} {st : St} {all : Array Oper} {hp0 : Hp} {ix : Nat} {l : List (Nat × Nat)} {k : List W} {o : Oper} {a : Act} {w : World} (hr : RepX F st a w) (hix : all[ix]? = some o) (hf : frz hp0 = []) (hw : o.guard = none) {dd : Nat} (hdst : o.dst = some dd) (hdn : dd < st.nt) (hks : st.ks.all (fun r => r.tj != dd) = true) {t t' : TypeId} {i b len cap base2 n cap2 sz N u : Nat} {row : Nat → List SV}
    (he : evApp st o.op = some (.sl i b 0 0 len cap sz, .sl i b 0 base2 n cap2 sz, t, t')) {e e' : TypeId} {ti ti' te : TI} (ht : lookT C.tt t = some ti) (hd1 : ti.d = .slice e) (ht' : lookT C.tt t' = some ti') (hd2 : ti'.d = .slice e') (hte : lookT C.tt e = some te) (hz : te.zero.cells.size = te.sz) (hsz : te.sz = sz) (hby : te.by_ ≠ 0)
    (hi : st.hp[i]? = some (b, true, .arr 0 N row sz u (0, 0))) (hroom : len + n ≤ cap) (hcap : cap ≤ N) (hn : base2 + n ≤ N) (hna : ∀ j, j < n → ∀ x ∈ row (base2 + j), NotAgg (den x)) (htl : tails l = true)
    (hk : ∀ a' w', RepX F { st with env := (dd, 0, .sl i b 0 0 (len + n) cap sz) :: st.env, hp := st.hp.set i (b, true, .arr 0 N (copyRow row row len base2 n) sz u (0, 0)) } a' w' → post P Q (.opsD all [] l :: k) .normal a' w') : post P Q (.opsD all hp0 ((ix, 3) :: l) :: k) .normal a w := by
  obtain ⟨w', h1, h2⟩ := RepX.appSelf htt hr he ht hd1 ht' hd2 hte hz hsz hby hi hroom hcap hn hna
  refine post_stepD3 hix (wanted_none hw) h1 (by rw [hf]; exact HpRep.nil) ?_
  rw [hdst]
  have hgo : ∀ a w, wpSeqD P all (post P Q k) (HpRep []) (HpRep (frz [])) l a w → wpSeqD P all (post P Q k) (HpRep hp0) (HpRep (frz hp0)) l a w := fun a w h => by rw [hf]; exact seqD_tails _ l _ _ htl h
  refine hgo _ _ ?_
  exact hk _ _ (h2.retK (KeepsTo.refl w' []) (by simp) dd (.sl i b 0 0 (len + n) cap sz) (by simp [den]) _ h2.all hdn hks)
theorem post_slice3 {P : Program} {C : Cfg} (htt : TTok P C.tt) {Q : Exit → Act → World → Prop} {F : Fr} {st : St} {all : Array Oper} {o : Oper} {l : List Oper} {k : List W} {a : Act} {w : World} (hr : RepX F st a w) (hw : o.guard = none) {dd : Nat} (hdst : o.dst = some dd) (hdn : dd < st.nt) (hks : st.ks.all (fun r => r.tj != dd) = true)
    {t e : TypeId} {ti te : TI} {x lo hi mx : Operand} (hop : o.op = .slice t x (some lo) (some hi) (some mx)) {X : SV} {k1 k2 k3 : IntKind} {vl vh vm : Int} (h : opds st 0 [x, lo, hi, mx] = some [X, .v (.int k1 vl), .v (.int k2 vh), .v (.int k3 vm)]) {ad : Option Addr} {len cap : Nat} (hX : den X = .slice ad len cap)
    (ht : lookT C.tt t = some ti) (hd : ti.d = .slice e) (hte : lookT C.tt e = some te) (h0 : 0 ≤ vl) (h1 : vl ≤ vh) (h2 : vh ≤ vm) (h3 : vm ≤ cap)
    (hk : ∀ a' v, RepX F { st with env := (dd, 0, .v v) :: st.env } a' w → post P Q (.ops all l :: k) .normal a' w) : post P Q (.ops all (o :: l) :: k) .normal a w := by
  have e1 := opds_sound (hr.env.same (st' := st) rfl rfl rfl rfl) (c := 0) rfl _ _ h
  simp only [List.map_cons, List.map_nil, denL, List.cons.injEq, and_true] at e1
  obtain ⟨ex, el, eh, em⟩ := e1
  have hu := (htt _ _ ht).slice hd
  have hs := run_sizeOf' (htt _ _ hte) w
  have b1 : 0 ≤ vm := by omega
  have b2 : 0 ≤ vh := by omega
  have b3 : vh ≤ (vm.toNat : Int) := by omega
  have b4 : vl ≤ (vh.toNat : Int) := by omega
  have hex : ∃ v, (execOp a.eval o).run P w = .ok (.value v) w := by
    simp only [execOp, hop, Option.map_some, ex, el, eh, em, hX, den]
    simp only [Instr.sliceAt, Instr.slice, Sem.run_bind, run_underlying hu, Result.andThen_ok, Instr.sliceBounds, run_sliceBound w k3 vm cap _ b1 h3, run_sliceBound w k2 vh vm.toNat _ b2 b3, run_sliceBound w k1 vl vh.toNat _ h0 b4, hs, Sem.run_pure, Option.isSome_some, if_true]
    exact ⟨_, rfl⟩
  obtain ⟨v, hv⟩ := hex
  refine post_step hw hv ?_
  rw [hdst]
  exact hk _ v (hr.retK (KeepsTo.refl w []) (by simp) dd (.v v) rfl st.hp hr.all hdn hks)
set_option maxRecDepth 100000 in
set_option maxHeartbeats 16000000 in
theorem delete_ok {Q : Nat → Prop} (w : World) (v : Value) (L : List Lse) (hO : OwL Q w v L) (i : Nat) (hi : i < L.length) (hn : L.length ≤ 1000000) :
    Calls Try.prog 85 (denL [.v v, .v (.int .i64 i), .v (.int .i64 ((i : Int) + 1))]).toArray w (DelR Q w (L.take i ++ L.drop (i + 1))) := by
  obtain ⟨b, N, cap, u, row, hQ, rfl, hc0, hc1, hc2, hrep, hrow⟩ := hO.opn hi
  have hbw := SO.rep_lt hrep
  have hE : HpAll ⟨w, w.heap.size, [b]⟩ w [(b, true, .arr 0 N row 4 u (0, 0))] := ⟨⟨hrep, fun _ => .inr (by simp), by simp⟩, trivial⟩
  refine enter (F := ⟨w, w.heap.size, [b]⟩) Try.func85 rfl [.sl 0 b 0 0 L.length cap 4, .v (.int .i64 i), .v (.int .i64 ((i : Int) + 1))] _ (by simp [Try.f85]) hE (KeepsTo.refl w _) fun a hr => ?_
  have hne : ¬ (i : Int) = (i : Int) + 1 := by omega
  have hMB : ∀ z ∈ [b], Q z ∧ z < w.heap.size := by simpa using ⟨hQ, hbw⟩
  obtain ⟨m, hm⟩ : ∃ m, L.length = i + 1 + m := ⟨L.length - (i + 1), by omega⟩
  have hfin : ∀ (w' : World) (row' : Nat → List SV), (SO.arr 0 N row' 4 u (0, 0)).rep w' b → (∀ q, q < i + m → row' q = copyRow row row i (i + 1) m q) → OwL Q w' (.slice (some ⟨b, 0, none⟩) (i + m) cap) (L.take i ++ L.drop (i + 1)) := fun w' row' h1 h2 => by
    have hl : (L.take i ++ L.drop (i + 1)).length = i + m := by simp; omega
    refine .inr ⟨b, N, cap, u, row', hQ, by rw [hl], hc0, by rw [hl]; omega, hc2, h1, fun q hq => ?_⟩
    rw [hl] at hq
    rw [h2 q hq]
    unfold copyRow
    by_cases hqi : q < i
    · rw [if_pos hqi, hrow q (by omega), nth_append_left (by simp; omega)]
      congr 1
      have := nth_part (d := lse0) (L := L) (i := 0) (n := i) hqi
      simpa using this.symm
    · rw [if_neg hqi, if_pos hq, hrow _ (by omega)]
      obtain ⟨r, rfl⟩ : ∃ r, q = i + r := ⟨q - i, by omega⟩
      have e1 : (L.take i).length = i := by simp; omega
      have e2 := nth_append_right (d := lse0) (L := L.take i) (M := L.drop (i + 1)) (j := r)
      rw [e1] at e2
      rw [e2]
      simp [nth, Nat.add_comm, Nat.add_left_comm]
  refine seg cfg85_ok mixed PanicFree.body 1000 [] [] hr (by first | trivial | exact HpRep.nil | assumption) (by kernel_rfl) fun s_ hs_ => ?_
  simp (maxSteps := 10000000) [SX.vc, SX.stop, SX.contS, SX.sxStep, SX.stepPure, SX.stepNew, SX.stepStore, SX.guardIx, SX.evOp, SX.opd, SX.opds, SX.look, SX.putS, SX.gobs, SX.AllP, SX.leave, SX.lookT, SX.evBuiltin, SX.evNew, SX.evStore, SX.env0, cfg85, Try.f85]
  refine ⟨by (unfold SX.Ob; first | trivial | omega | ((try simp only [SX.inK]); (try simp [SX.den, SX.IsU8, SX.AllP, *]); (try omega))), ?_⟩
  intro a1 w1 hr1 _
  refine post_slice3 (C := cfg85) cfg85_ok hr1 rfl rfl (by simp) rfl rfl rfl rfl rfl rfl rfl (by omega) (by omega) (by omega) (by omega) fun a2 v2 hr2 => ?_
  by_cases hci : cap = i + 1
  · have hm0 : m = 0 := by omega
    have hci2 : ¬ cap = i := by omega
    have hm1 : ¬ 1 = m := by omega
    refine seg cfg85_ok mixed PanicFree.body 1000 [false] [] hr2 (by first | trivial | exact HpRep.nil | assumption) (by kernel_rfl) fun s_ hs_ => ?_
    simp (maxSteps := 10000000) [SX.vc, SX.stop, SX.contS, SX.contB, SX.contR, SX.contD, SX.sxStep, SX.stepPure, SX.stepNew, SX.stepStore, SX.guardIx, SX.evOp, SX.opd, SX.opds, SX.optOpd, SX.look, SX.putS, SX.gobs, SX.AllP, SX.leave, SX.lookT, SX.lookN, SX.evBuiltin, SX.evBin, SX.evInt, SX.evNew, SX.evStore, SX.evSlice, SX.bnd, SX.tails, SX.thaw, SX.frzStep, cfg85, hne, hci]
    refine ⟨by (unfold SX.Ob; first | trivial | omega | ((try simp only [SX.inK]); (try simp [SX.den, SX.IsU8, SX.AllP, *]); (try omega))), ?_⟩
    intro a3 w3 hr3 _
    have hm2 : L.length - (i + 1) = m := by omega
    rw [hm2] at hr3
    have hfl : ∀ j, j < m → ∀ x ∈ row (0 + j), NotAgg (den x) := fun j hj => by
      omega
    refine post_appSelfD (C := cfg85) cfg85_ok hr3 rfl (frz_thaw [(b, true, SO.arr 0 N row 4 u (0, 0))]) rfl rfl (by simp) rfl rfl rfl rfl rfl rfl rfl rfl rfl (by decide) rfl (by omega) (by omega) (by omega) hfl rfl fun a4 w4 hr4 => ?_
    have hcm : ¬ cap = i + m := by omega
    have htn : ((i : Int) + (m : Int)).toNat = i + m := by omega
    refine seg cfg85_ok mixed PanicFree.body 1000 [] [] hr4 (by first | trivial | exact HpRep.nil | assumption) (by kernel_rfl) fun s_ hs_ => ?_
    simp (maxSteps := 10000000) [SX.vc, SX.stop, SX.contS, SX.contD, SX.sxStep, SX.stepPure, SX.stepNew, SX.stepStore, SX.guardIx, SX.evOp, SX.opd, SX.opds, SX.optOpd, SX.look, SX.putS, SX.gobs, SX.AllP, SX.leave, SX.lookT, SX.evBuiltin, SX.evNew, SX.evStore, SX.evSlice, SX.bnd, cfg85, htn, hm1]
    refine ⟨by (unfold SX.Ob; first | trivial | omega | ((try simp only [SX.inK]); (try simp [SX.den, SX.IsU8, SX.AllP, *]); (try omega))), ?_⟩
    intro a5 w5 hr5 _
    refine post_clear (C := cfg85) cfg85_ok hr5 rfl rfl rfl rfl rfl rfl rfl rfl rfl (by decide) rfl (by omega) fun a6 w6 hr6 => ?_
    refine seg cfg85_ok mixed PanicFree.body 1000 [] [] hr6 (by first | trivial | exact HpRep.nil | assumption) (by kernel_rfl) fun s_ hs_ => ?_
    simp (maxSteps := 10000000) [SX.vc, SX.stop, SX.contS, SX.sxStep, SX.stepPure, SX.guardIx, SX.evOp, SX.opd, SX.look, SX.putS, SX.gobs, SX.AllP, SX.leave, Go.Value.cells, cfg85]
    refine ⟨by (unfold SX.Ob; first | trivial | omega | ((try simp only [SX.inK]); (try simp [SX.den, SX.IsU8, SX.AllP, *]); (try omega))), ?_⟩
    intro a7 w7 hr7 _
    refine post_retn (end1 hr7 rfl rfl ⟨_, [b], rfl, ?_, hMB, hr7.keeps⟩).1
    have := hfin w7 _ hr7.all.1.1 (fun q hq => by
      rw [if_neg (by omega)]
      unfold copyRow
      rw [if_pos (by omega), if_pos (by omega)])
    simpa [den, hci] using this
  · refine seg cfg85_ok mixed PanicFree.body 1000 [false] [] hr2 (by first | trivial | exact HpRep.nil | assumption) (by kernel_rfl) fun s_ hs_ => ?_
    simp (maxSteps := 10000000) [SX.vc, SX.stop, SX.contS, SX.contB, SX.contR, SX.contD, SX.sxStep, SX.stepPure, SX.stepNew, SX.stepStore, SX.guardIx, SX.evOp, SX.opd, SX.opds, SX.optOpd, SX.look, SX.putS, SX.gobs, SX.AllP, SX.leave, SX.lookT, SX.lookN, SX.evBuiltin, SX.evBin, SX.evInt, SX.evNew, SX.evStore, SX.evSlice, SX.bnd, SX.tails, SX.thaw, SX.frzStep, cfg85, hne, hci]
    refine ⟨by (unfold SX.Ob; first | trivial | omega | ((try simp only [SX.inK]); (try simp [SX.den, SX.IsU8, SX.AllP, *]); (try omega))), ?_⟩
    intro a3 w3 hr3 _
    have hm2 : L.length - (i + 1) = m := by omega
    rw [hm2] at hr3
    have hfl : ∀ j, j < m → ∀ x ∈ row (i + 1 + j), NotAgg (den x) := fun j hj => by
      rw [hrow _ (by omega)]
      exact flatL [nth lse0 L (i + 1 + j)] _ (by simp)
    refine post_appSelfD (C := cfg85) cfg85_ok hr3 rfl (frz_thaw [(b, true, SO.arr 0 N row 4 u (0, 0))]) rfl rfl (by simp) rfl rfl rfl rfl rfl rfl rfl rfl rfl (by decide) rfl (by omega) (by omega) (by omega) hfl rfl fun a4 w4 hr4 => ?_
    have hcm : ¬ cap = i + m := by omega
    have htn : ((i : Int) + (m : Int)).toNat = i + m := by omega
    refine seg cfg85_ok mixed PanicFree.body 1000 [] [] hr4 (by first | trivial | exact HpRep.nil | assumption) (by kernel_rfl) fun s_ hs_ => ?_
    simp (maxSteps := 10000000) [SX.vc, SX.stop, SX.contS, SX.contD, SX.sxStep, SX.stepPure, SX.stepNew, SX.stepStore, SX.guardIx, SX.evOp, SX.opd, SX.opds, SX.optOpd, SX.look, SX.putS, SX.gobs, SX.AllP, SX.leave, SX.lookT, SX.evBuiltin, SX.evNew, SX.evStore, SX.evSlice, SX.bnd, cfg85, hcm, htn]
    refine ⟨by (unfold SX.Ob; first | trivial | omega | ((try simp only [SX.inK]); (try simp [SX.den, SX.IsU8, SX.AllP, *]); (try omega))), ?_⟩
    intro a5 w5 hr5 _
    refine post_clear (C := cfg85) cfg85_ok hr5 rfl rfl rfl rfl rfl rfl rfl rfl rfl (by decide) rfl (by omega) fun a6 w6 hr6 => ?_
    refine seg cfg85_ok mixed PanicFree.body 1000 [] [] hr6 (by first | trivial | exact HpRep.nil | assumption) (by kernel_rfl) fun s_ hs_ => ?_
    simp (maxSteps := 10000000) [SX.vc, SX.stop, SX.contS, SX.sxStep, SX.stepPure, SX.guardIx, SX.evOp, SX.opd, SX.look, SX.putS, SX.gobs, SX.AllP, SX.leave, Go.Value.cells, cfg85]
    refine ⟨by (unfold SX.Ob; first | trivial | omega | ((try simp only [SX.inK]); (try simp [SX.den, SX.IsU8, SX.AllP, *]); (try omega))), ?_⟩
    intro a7 w7 hr7 _
    refine post_retn (end1 hr7 rfl rfl ⟨_, [b], rfl, ?_, hMB, hr7.keeps⟩).1
    have := hfin w7 _ hr7.all.1.1 (fun q hq => by
      rw [if_neg (by omega)])
    simpa [den, hci] using this
def delK (y : Int) (L : List Lse) : List Lse := L.filter fun x => decide (x.k ≠ y)
theorem place_del {L : List Lse} {y : Int} {i : Nat} (hs : Srt L) (hi : i < L.length) (hk : (nth lse0 L i).k = y) : L.take i ++ L.drop (i + 1) = delK y L := by
  unfold delK
  conv => rhs; rw [← List.take_append_drop i L]
  rw [List.filter_append, drop_nth (d := lse0) hi, List.filter_cons_of_neg (by simpa using hk)]
  congr 1
  · rw [List.filter_eq_self.2]
    intro x hx
    obtain ⟨j, hj, rfl⟩ := List.mem_iff_getElem.1 hx
    simp only [List.length_take] at hj
    have := hs j i (by omega) hi
    rw [nth_lt (show j < L.length by omega)] at this
    simp only [List.getElem_take, decide_eq_true_eq]
    omega
  · rw [List.filter_eq_self.2]
    intro x hx
    obtain ⟨j, hj, rfl⟩ := List.mem_iff_getElem.1 hx
    simp only [List.length_drop] at hj
    have := hs i (i + 1 + j) (by omega) (by omega)
    rw [nth_lt (show i + 1 + j < L.length by omega)] at this
    simp only [List.getElem_drop, decide_eq_true_eq]
    omega
def revE (t : Tab) (key : Int) : Int := if ChkT t then (if HasK t.L key then 0 else 4) else 1
def revT (t : Tab) (key : Int) : Tab := if revE t key = 0 then ⟨t.last, t.now, delK key t.L⟩ else tab0
def RevR (w : World) (t : Tab) (key : Int) (e : Ending) (w' : World) : Prop :=
  ∃ v1, e = .returned (den (.tu [.ag (tabC (revT t key) v1), .v (.int .i64 (revE t key))])) ∧ RdL (fun x => w.heap.size ≤ x) w' v1 (revT t key).L ∧ Below w.heap.size w w'
set_option maxRecDepth 100000 in
set_option maxHeartbeats 16000000 in
theorem Revoke_ok {P : Nat → Prop} (w : World) (v : Value) (t : Tab) (key : Int) (hL : RdL P w v t.L) (hn : t.L.length ≤ 100000) : Calls Try.prog 63 (denL [.ag (tabC t v), .v (.int .i64 key)]).toArray w (RevR w t key) := by
  refine enter (F := frame0 w) Try.func63 rfl [.ag (tabC t v), .v (.int .i64 key)] [] (by simp [Try.f63]) trivial (keeps0 w) fun a hr => ?_
  obtain ⟨ad, cp, rfl⟩ := hL.slice
  refine seg cfg63_ok mixed PanicFree.body 1000 [] [] hr (by first | trivial | exact HpRep.nil | assumption) (by kernel_rfl) fun sA hsA => ?_
  simp (maxSteps := 10000000) [SX.vc, SX.stop, SX.contS, SX.sxStep, SX.stepPure, SX.stepNew, SX.stepStore, SX.guardIx, SX.evOp, SX.opd, SX.look, SX.putS, SX.gobs, SX.AllP, SX.leave, SX.lookT, SX.evLoad, SX.shapeUp, SX.cellsV, SX.evNew, SX.evStore, SX.SV.cells, SX.env0, SX.TD.isAgg, Go.Value.cells, cfg63, Try.f63, tabC]
  refine ⟨by (unfold SX.Ob; first | trivial | omega | ((try simp only [SX.inK]); (try simp [SX.den, SX.IsU8, SX.AllP, *]); (try omega))), ?_⟩
  intro a1 w1 hr1 _
  refine post_call 76 [.ag [.v (.int .i64 t.last), .v (.int .i64 t.now), .v (.slice ad t.L.length cp)]] hr1 (by first | exact wanted_none rfl | exact wanted_zero (hr1.env.same rfl rfl rfl rfl) rfl (by simp) | exact wanted_zero (hr1.env.same rfl rfl rfl rfl) rfl (by simp [*])) rfl (callable 76 Try.func76) (check_ok w1 _ t (hL.below hr1.keeps.toBelow) (by omega)) ?_
  rintro e2 w2 ⟨rfl, hb2⟩
  refine ⟨_, rfl, ?_⟩
  have h2 := hr1.ret hb2 9 (.v (.int .i64 (chkT t))) rfl _ (hr1.all.below hb2) (by simp) rfl
  by_cases hC : ChkT t
  rotate_left
  · have hc : chkT t = 1 := if_neg hC
    have hE : revE t key = 1 := if_neg hC
    have hT : revT t key = tab0 := if_neg (by omega)
    refine seg cfg63_ok mixed PanicFree.body 1000 [true] [] h2 (by first | trivial | exact HpRep.nil | assumption) (by kernel_rfl) fun s_ hs_ => ?_
    simp (maxSteps := 10000000) [SX.vc, SX.stop, SX.contS, SX.contB, SX.sxStep, SX.stepPure, SX.stepNew, SX.stepStore, SX.guardIx, SX.evOp, SX.opd, SX.opds, SX.look, SX.putS, SX.gobs, SX.AllP, SX.leave, SX.lookT, SX.evBin, SX.evInt, SX.evFill, SX.evBuild, SX.szs, SX.cellsV, SX.evNew, SX.evStore, SX.spliceL, SX.SV.cells, SX.NotAgg, Go.Value.cells, cfg63, hc]
    refine ⟨by (unfold SX.Ob; first | trivial | omega | ((try simp only [SX.inK]); (try simp [SX.den, SX.IsU8, SX.AllP, *]); (try omega))), ?_⟩
    intro a3 w3 hr3 _
    exact post_retn (endC2 hr3 rfl rfl rfl tok27 rfl rfl ⟨.slice none 0 0, by rw [hE, hT]; simp [den, denL, tabC, tab0], by rw [hT]; exact OwS.nil.rd, hr3.keeps.toBelow⟩).1
  have hc : chkT t = 0 := if_pos hC
  have hsr := chk_srt hC
  refine seg cfg63_ok mixed PanicFree.body 1000 [false] [] h2 (by first | trivial | exact HpRep.nil | assumption) (by kernel_rfl) fun s_ hs_ => ?_
  simp (maxSteps := 10000000) [SX.vc, SX.stop, SX.contS, SX.contB, SX.sxStep, SX.stepPure, SX.stepNew, SX.stepStore, SX.guardIx, SX.evOp, SX.opd, SX.look, SX.putS, SX.gobs, SX.AllP, SX.leave, SX.lookT, SX.evBin, SX.evInt, SX.evLoad, SX.shapeUp, SX.evNew, SX.evStore, SX.TD.isAgg, cfg63, hc]
  refine ⟨by (unfold SX.Ob; first | trivial | omega | ((try simp only [SX.inK]); (try simp [SX.den, SX.IsU8, SX.AllP, *]); (try omega))), ?_⟩
  intro a3 w3 hr3 _
  refine post_call 84 [.ag [.v (.int .i64 t.last), .v (.int .i64 t.now), .v (.slice ad t.L.length cp)], .v (.int .i64 key)] hr3 (by first | exact wanted_none rfl | exact wanted_zero (hr3.env.same rfl rfl rfl rfl) rfl (by simp) | exact wanted_zero (hr3.env.same rfl rfl rfl rfl) rfl (by simp [*])) rfl (callable 84 Try.func84) (find_ok w3 _ t key (hL.below hr3.keeps.toBelow) (by omega)) ?_
  rintro e4 w4 ⟨i, rfl, hpl, hb4⟩
  refine ⟨_, rfl, ?_⟩
  have h4 := hr3.ret hb4 15 (.tu [.v (.int .i64 i), .v (.bool (isAt t.L key i))]) rfl _ (hr3.all.below hb4) (by simp) rfl
  have hat := place_has hpl hsr
  by_cases hH : HasK t.L key
  rotate_left
  · have hE : revE t key = 4 := by rw [revE, if_pos hC, if_neg hH]
    have hT : revT t key = tab0 := if_neg (by omega)
    have hat' : isAt t.L key i = false := by rw [hat]; simpa using hH
    refine seg cfg63_ok mixed PanicFree.body 1000 [true] [] h4 (by first | trivial | exact HpRep.nil | assumption) (by kernel_rfl) fun s_ hs_ => ?_
    simp (maxSteps := 10000000) [SX.vc, SX.stop, SX.contS, SX.contB, SX.sxStep, SX.stepPure, SX.stepNew, SX.stepStore, SX.guardIx, SX.evOp, SX.opd, SX.opds, SX.look, SX.putS, SX.gobs, SX.AllP, SX.leave, SX.lookT, SX.evFill, SX.evBuild, SX.szs, SX.cellsV, SX.evNew, SX.evStore, SX.spliceL, SX.SV.cells, SX.evUn, SX.NotAgg, Go.Value.cells, cfg63, hat']
    refine ⟨by (unfold SX.Ob; first | trivial | omega | ((try simp only [SX.inK]); (try simp [SX.den, SX.IsU8, SX.AllP, *]); (try omega))), ?_⟩
    intro a5 w5 hr5 _
    exact post_retn (endC2 hr5 rfl rfl rfl tok27 rfl rfl ⟨.slice none 0 0, by rw [hE, hT]; simp [den, denL, tabC, tab0], by rw [hT]; exact OwS.nil.rd, hr5.keeps.toBelow⟩).1
  have hE : revE t key = 0 := by rw [revE, if_pos hC, if_pos hH]
  have hT : revT t key = ⟨t.last, t.now, delK key t.L⟩ := if_pos hE
  have hat' : isAt t.L key i = true := by rw [hat]; simpa using hH
  have hik : i < t.L.length ∧ (nth lse0 t.L i).k = key := by simpa [isAt] using hat'
  have hdl := place_del hsr hik.1 hik.2
  refine seg cfg63_ok mixed PanicFree.body 1000 [false] [] h4 (by first | trivial | exact HpRep.nil | assumption) (by kernel_rfl) fun s_ hs_ => ?_
  simp (maxSteps := 10000000) [SX.vc, SX.stop, SX.contS, SX.contB, SX.sxStep, SX.stepPure, SX.stepNew, SX.stepStore, SX.guardIx, SX.evOp, SX.opd, SX.look, SX.putS, SX.gobs, SX.AllP, SX.leave, SX.lookT, SX.evLoad, SX.shapeUp, SX.evFieldAddr, SX.evNew, SX.evStore, SX.evUn, SX.TD.isAgg, cfg63, hat']
  refine ⟨by (unfold SX.Ob; first | trivial | omega | ((try simp only [SX.inK]); (try simp [SX.den, SX.IsU8, SX.AllP, *]); (try omega))), ?_⟩
  intro a5 w5 hr5 _
  have hA5 := hr5.all
  have z5 : w.heap.size ≤ w5.heap.size := hr5.keeps.size
  refine post_call 40 [.v (.slice ad t.L.length cp)] hr5 (by first | exact wanted_none rfl | exact wanted_zero (hr5.env.same rfl rfl rfl rfl) rfl (by simp) | exact wanted_zero (hr5.env.same rfl rfl rfl rfl) rfl (by simp [*])) rfl (callable 40 Try.func40) (clone_all w5 _ t.L (hL.below hr5.keeps.toBelow) (by omega)) ?_
  rintro e6 w6 ⟨v6, rfl, hO6, hb6⟩
  refine ⟨_, rfl, ?_⟩
  have h6 := hr5.ret hb6 23 (.v v6) rfl _ (hr5.all.below hb6) (by simp) rfl
  refine seg cfg63_ok mixed PanicFree.body 1000 [] [] h6.rebase (by first | trivial | exact HpRep.nil | assumption) (by kernel_rfl) fun s_ hs_ => ?_
  simp (maxSteps := 10000000) [SX.vc, SX.stop, SX.contS, SX.sxStep, SX.stepPure, SX.stepNew, SX.stepStore, SX.guardIx, SX.evOp, SX.opd, SX.look, SX.putS, SX.gobs, SX.AllP, SX.leave, SX.lookT, SX.evBin, SX.evInt, SX.arith, SX.evLoad, SX.shapeUp, SX.evFieldAddr, SX.evNew, SX.evStore, SX.spliceL, SX.SV.cells, SX.TD.isAgg, SX.NotAgg, cfg63]
  refine ⟨by (unfold SX.Ob; first | trivial | omega | ((try simp only [SX.inK]); (try simp [SX.den, SX.IsU8, SX.AllP, *]); (try omega))), ?_⟩
  intro a7 w7 hr7' _
  have hr7 := h6.unbase hr7'
  have hO7 := hO6.keep hr7'.keeps (fun x hx h => absurd (mutB_lt hr5.all x hx) (by omega))
  have hde := delete_ok w7 v6 t.L hO7 i hik.1 (by omega)
  rw [hdl] at hde
  refine post_call 85 [.v v6, .v (.int .i64 i), .v (.int .i64 ((i : Int) + 1))] hr7 (wanted_none rfl) rfl (callable 85 Try.func85) hde ?_
  rintro e8 w8 ⟨V, B, rfl, hO8, hB, hk8⟩
  refine ⟨_, rfl, ?_⟩
  have h8 := hr7.retK hk8 (fun x hx => .inl (Nat.le_trans z5 (hB x hx).1)) 27 (.v V) rfl _ (HpAll.to hk8 hr7.all (fun e he hb => by
    have h1 := (hB _ hb).1
    have k0 := SO.rep_lt hA5.1.1
    have k1 := SO.rep_lt hA5.2.1.1
    simp at he
    rcases he with rfl | rfl <;> (simp at h1; omega))) (by simp) rfl
  obtain ⟨adV, cpV, rfl⟩ := hO8.slice
  refine seg cfg63_ok mixed PanicFree.body 1000 [] [] h8.rebase (by first | trivial | exact HpRep.nil | assumption) (by kernel_rfl) fun s_ hs_ => ?_
  simp (maxSteps := 10000000) [SX.vc, SX.stop, SX.contS, SX.sxStep, SX.stepPure, SX.stepNew, SX.stepStore, SX.guardIx, SX.evOp, SX.opd, SX.look, SX.putS, SX.gobs, SX.AllP, SX.leave, SX.lookT, SX.evBin, SX.evInt, SX.arith, SX.evLoad, SX.shapeUp, SX.evFieldAddr, SX.evNew, SX.evStore, SX.spliceL, SX.SV.cells, SX.TD.isAgg, SX.NotAgg, cfg63]
  refine ⟨by (unfold SX.Ob; first | trivial | omega | ((try simp only [SX.inK]); (try simp [SX.den, SX.IsU8, SX.AllP, *]); (try omega))), ?_⟩
  intro a9 w9 hr9' _
  have hr9 := h8.unbase hr9'
  have hO9 := hO8.rd.keep hr9'.keeps (fun x hx h => absurd (mutB_lt hr5.all x hx) (by omega))
  exact post_retn (endC2 hr9 rfl rfl rfl tok27 rfl rfl ⟨.slice adV (delK key t.L).length cpV, by rw [hE, hT]; simp [den, denL, tabC], by rw [hT]; exact hO9.mono fun x _ h => by omega, hr9.keeps.toBelow⟩).1
end Go.Proofs.L6
namespace Go.Proofs.L6
open Go Go.Proofs Go.SX Go.RowKit
def maxI (a b : Int) : Int := if a < b then b else a
def getK (L : List Lse) (y : Int) : Lse := (L.find? fun x => decide (x.k = y)).getD lse0
theorem srt_inj {L : List Lse} (hs : Srt L) {i j : Nat} (hi : i < L.length) (hj : j < L.length) (h : (nth lse0 L i).k = (nth lse0 L j).k) : i = j := by
  rcases Nat.lt_trichotomy i j with h1 | h1 | h1
  · have := hs i j h1 hj; omega
  · exact h1
  · have := hs j i h1 hi; omega
theorem getK_at {L : List Lse} {y : Int} {i : Nat} (hs : Srt L) (hi : i < L.length) (hk : (nth lse0 L i).k = y) : getK L y = nth lse0 L i := by
  unfold getK
  rcases hf : L.find? (fun x => decide (x.k = y)) with _ | z
  · have := List.find?_eq_none.1 hf _ (nth_mem (d := lse0) hi)
    simp [hk] at this
  · have h1 := List.find?_some hf
    have h2 := List.mem_of_find?_eq_some hf
    obtain ⟨j, hj, rfl⟩ := List.mem_iff_getElem.1 h2
    simp only [decide_eq_true_eq] at h1
    have : i = j := srt_inj hs hi hj (by rw [hk, nth_lt hj, h1])
    subst this
    rw [hf, nth_lt hj]
    rfl
theorem hasK_get {L : List Lse} {y : Int} (h : HasK L y) : getK L y ∈ L ∧ (getK L y).k = y := by
  obtain ⟨x, hx, hk⟩ := h
  unfold getK
  rcases hf : L.find? (fun x => decide (x.k = y)) with _ | z
  · have := List.find?_eq_none.1 hf x hx
    simp [hk] at this
  · rw [hf]
    exact ⟨List.mem_of_find?_eq_some hf, by simpa using List.find?_some hf⟩
def upK (key m : Int) (y : Lse) : Lse := if y.k = key then { y with u := maxI y.u m } else y
theorem place_up {L : List Lse} {key m : Int} {i : Nat} (hs : Srt L) (hi : i < L.length) (hk : (nth lse0 L i).k = key) : L.set i { nth lse0 L i with u := maxI (nth lse0 L i).u m } = L.map (upK key m) := by
  apply List.ext_getElem (by simp)
  intro j h1 h2
  have hj : j < L.length := by simpa using h1
  rw [List.getElem_set, List.getElem_map]
  by_cases hij : i = j
  · subst hij
    rw [if_pos rfl, nth_lt hj]
    rw [nth_lt hj] at hk
    rw [upK, if_pos hk]
  · rw [if_neg hij, upK, if_neg]
    intro h
    exact hij (srt_inj hs hi hj (by rw [hk, nth_lt hj, h]))
def renE (t : Tab) (key host epoch ttl : Int) : Int := if GoodT t ttl then (if HasK t.L key then (if (getK t.L key).h = host ∧ (getK t.L key).e = epoch then 0 else 61) else 4) else 1
def renT (t : Tab) (key host epoch ttl : Int) : Tab := if renE t key host epoch ttl = 0 then ⟨t.last, t.now, t.L.map (upK key (t.now + ttl))⟩ else tab0
def RenR (w : World) (t : Tab) (key host epoch ttl : Int) (e : Ending) (w' : World) : Prop :=
  ∃ v1, e = .returned (den (.tu [.ag (tabC (renT t key host epoch ttl) v1), .v (.int .i64 (renE t key host epoch ttl))])) ∧ RdL (fun x => w.heap.size ≤ x) w' v1 (renT t key host epoch ttl).L ∧ Below w.heap.size w w'
set_option maxRecDepth 100000 in
set_option maxHeartbeats 16000000 in
theorem Renew_ok {P : Nat → Prop} (w : World) (v : Value) (t : Tab) (key host epoch ttl : Int) (hL : RdL P w v t.L) (hn : t.L.length ≤ 100000) (hl2 : t.now ≤ 2305843009213693952) : Calls Try.prog 61 (denL [.ag (tabC t v), .v (.int .i64 key), .v (.int .i64 host), .v (.int .i64 epoch), .v (.int .i64 ttl)]).toArray w (RenR w t key host epoch ttl) := by
  refine enter (F := frame0 w) Try.func61 rfl [.ag (tabC t v), .v (.int .i64 key), .v (.int .i64 host), .v (.int .i64 epoch), .v (.int .i64 ttl)] [] (by simp [Try.f61]) trivial (keeps0 w) fun a hr => ?_
  obtain ⟨ad, cp, rfl⟩ := hL.slice
  refine seg cfg61_ok mixed PanicFree.body 1000 [] [] hr (by first | trivial | exact HpRep.nil | assumption) (by kernel_rfl) fun sA hsA => ?_
  simp (maxSteps := 10000000) [SX.vc, SX.stop, SX.contS, SX.sxStep, SX.stepPure, SX.stepNew, SX.stepStore, SX.guardIx, SX.evOp, SX.opd, SX.look, SX.putS, SX.gobs, SX.AllP, SX.leave, SX.lookT, SX.evLoad, SX.shapeUp, SX.cellsV, SX.evNew, SX.evStore, SX.SV.cells, SX.env0, SX.TD.isAgg, Go.Value.cells, cfg61, Try.f61, tabC]
  refine ⟨by (unfold SX.Ob; first | trivial | omega | ((try simp only [SX.inK]); (try simp [SX.den, SX.IsU8, SX.AllP, *]); (try omega))), ?_⟩
  intro a1 w1 hr1 _
  refine post_call 83 [.ag [.v (.int .i64 t.last), .v (.int .i64 t.now), .v (.slice ad t.L.length cp)], .v (.int .i64 ttl)] hr1 (by first | exact wanted_none rfl | exact wanted_zero (hr1.env.same rfl rfl rfl rfl) rfl (by simp) | exact wanted_zero (hr1.env.same rfl rfl rfl rfl) rfl (by simp [*])) rfl (callable 83 Try.func83) (good_ok w1 _ t ttl (hL.below hr1.keeps.toBelow) (by omega)) ?_
  rintro e2 w2 ⟨rfl, hb2⟩
  refine ⟨_, rfl, ?_⟩
  have h2 := hr1.ret hb2 16 (.v (.bool (decide (GoodT t ttl)))) rfl _ (hr1.all.below hb2) (by simp) rfl
  by_cases hGd : GoodT t ttl
  rotate_left
  · have hE : renE t key host epoch ttl = 1 := if_neg hGd
    have hT : renT t key host epoch ttl = tab0 := if_neg (by omega)
    refine seg cfg61_ok mixed PanicFree.body 1000 [true] [] h2 (by first | trivial | exact HpRep.nil | assumption) (by kernel_rfl) fun s_ hs_ => ?_
    simp (maxSteps := 10000000) [SX.vc, SX.stop, SX.contS, SX.contB, SX.sxStep, SX.stepPure, SX.stepNew, SX.stepStore, SX.guardIx, SX.evOp, SX.opd, SX.opds, SX.look, SX.putS, SX.gobs, SX.AllP, SX.leave, SX.lookT, SX.evFill, SX.evBuild, SX.szs, SX.cellsV, SX.evNew, SX.evStore, SX.spliceL, SX.SV.cells, SX.evUn, SX.NotAgg, Go.Value.cells, cfg61, hGd]
    refine ⟨by (unfold SX.Ob; first | trivial | omega | ((try simp only [SX.inK]); (try simp [SX.den, SX.IsU8, SX.AllP, *]); (try omega))), ?_⟩
    intro a3 w3 hr3 _
    exact post_retn (endC2 hr3 rfl rfl rfl tok27 rfl rfl ⟨.slice none 0 0, by rw [hE, hT]; simp [den, denL, tabC, tab0], by rw [hT]; exact OwS.nil.rd, hr3.keeps.toBelow⟩).1
  have hC := hGd.2.2
  have hsr := chk_srt hC
  have hg1 := hGd.1
  have hg2 := hGd.2.1
  have hn0 := hC.2.2
  refine seg cfg61_ok mixed PanicFree.body 1000 [false] [] h2 (by first | trivial | exact HpRep.nil | assumption) (by kernel_rfl) fun s_ hs_ => ?_
  simp (maxSteps := 10000000) [SX.vc, SX.stop, SX.contS, SX.contB, SX.sxStep, SX.stepPure, SX.stepNew, SX.stepStore, SX.guardIx, SX.evOp, SX.opd, SX.look, SX.putS, SX.gobs, SX.AllP, SX.leave, SX.lookT, SX.evLoad, SX.shapeUp, SX.evNew, SX.evStore, SX.evUn, SX.TD.isAgg, cfg61, hGd]
  refine ⟨by (unfold SX.Ob; first | trivial | omega | ((try simp only [SX.inK]); (try simp [SX.den, SX.IsU8, SX.AllP, *]); (try omega))), ?_⟩
  intro a3 w3 hr3 _
  refine post_call 84 [.ag [.v (.int .i64 t.last), .v (.int .i64 t.now), .v (.slice ad t.L.length cp)], .v (.int .i64 key)] hr3 (by first | exact wanted_none rfl | exact wanted_zero (hr3.env.same rfl rfl rfl rfl) rfl (by simp) | exact wanted_zero (hr3.env.same rfl rfl rfl rfl) rfl (by simp [*])) rfl (callable 84 Try.func84) (find_ok w3 _ t key (hL.below hr3.keeps.toBelow) (by omega)) ?_
  rintro e4 w4 ⟨i, rfl, hpl, hb4⟩
  refine ⟨_, rfl, ?_⟩
  have h4 := hr3.ret hb4 22 (.tu [.v (.int .i64 i), .v (.bool (isAt t.L key i))]) rfl _ (hr3.all.below hb4) (by simp) rfl
  have hat := place_has hpl hsr
  by_cases hH : HasK t.L key
  rotate_left
  · have hE : renE t key host epoch ttl = 4 := by rw [renE, if_pos hGd, if_neg hH]
    have hT : renT t key host epoch ttl = tab0 := if_neg (by omega)
    have hat' : isAt t.L key i = false := by rw [hat]; simpa using hH
    refine seg cfg61_ok mixed PanicFree.body 1000 [true] [] h4 (by first | trivial | exact HpRep.nil | assumption) (by kernel_rfl) fun s_ hs_ => ?_
    simp (maxSteps := 10000000) [SX.vc, SX.stop, SX.contS, SX.contB, SX.sxStep, SX.stepPure, SX.stepNew, SX.stepStore, SX.guardIx, SX.evOp, SX.opd, SX.opds, SX.look, SX.putS, SX.gobs, SX.AllP, SX.leave, SX.lookT, SX.evFill, SX.evBuild, SX.szs, SX.cellsV, SX.evNew, SX.evStore, SX.spliceL, SX.SV.cells, SX.evUn, SX.NotAgg, Go.Value.cells, cfg61, hat']
    refine ⟨by (unfold SX.Ob; first | trivial | omega | ((try simp only [SX.inK]); (try simp [SX.den, SX.IsU8, SX.AllP, *]); (try omega))), ?_⟩
    intro a5 w5 hr5 _
    exact post_retn (endC2 hr5 rfl rfl rfl tok27 rfl rfl ⟨.slice none 0 0, by rw [hE, hT]; simp [den, denL, tabC, tab0], by rw [hT]; exact OwS.nil.rd, hr5.keeps.toBelow⟩).1
  have hat' : isAt t.L key i = true := by rw [hat]; simpa using hH
  have hik : i < t.L.length ∧ (nth lse0 t.L i).k = key := by simpa [isAt] using hat'
  have hgk := getK_at hsr hik.1 hik.2
  have hup := place_up (m := t.now + ttl) hsr hik.1 hik.2
  obtain ⟨b, o0, cap, u, fz, hP, hv, hrep⟩ := hL.opn hik.1
  cases hv
  have hbw := SO.rep_lt hrep
  obtain ⟨x, hx⟩ : ∃ x, nth lse0 t.L i = x := ⟨_, rfl⟩
  rw [hx] at hgk hup
  have hA4 := h4.all
  have hrep4 := SO.rep_same hrep (h4.keeps.toBelow.block _ hbw)
  have hil := hik.1
  have h5 := h4.see [(sA, true, .cells [.v (.int .i64 t.last), .v (.int .i64 t.now), .sl 2 b o0 0 t.L.length cp 4] 27), (sA + 1, true, .cells [.v (.int .i64 0), .v (.int .i64 0), .v (.slice none 0 0)] 27), (b, false, .arr o0 t.L.length (fun j => lseC (nth lse0 t.L j)) 4 u fz)] ⟨⟨by simpa [SO.rep, denL, den] using hA4.1.1, hA4.1.2.1, by simp; omega⟩, ⟨hA4.2.1.1, hA4.2.1.2.1, by simp; omega⟩, HpAll.one hrep4⟩
  by_cases c1 : x.h = host
  rotate_left
  · have hE : renE t key host epoch ttl = 61 := by rw [renE, if_pos hGd, if_pos hH, if_neg (by rw [hgk]; exact fun h => c1 h.1)]
    have hT : renT t key host epoch ttl = tab0 := if_neg (by omega)
    refine seg cfg61_ok mixed PanicFree.body 1000 [false, true, true] [] h5 (by first | trivial | exact HpRep.nil | assumption) (by kernel_rfl) fun s_ hs_ => ?_
    simp (maxSteps := 10000000) [SX.vc, SX.stop, SX.contS, SX.contB, SX.sxStep, SX.stepPure, SX.stepNew, SX.stepStore, SX.guardIx, SX.evOp, SX.opd, SX.opds, SX.look, SX.putS, SX.gobs, SX.AllP, SX.leave, SX.lookT, SX.evBin, SX.evInt, SX.evLoad, SX.shapeUp, SX.evFieldAddr, SX.evIndexAddr, SX.evFill, SX.evBuild, SX.szs, SX.cellsV, SX.evNew, SX.evStore, SX.spliceL, SX.SV.cells, SX.evUn, SX.TD.isAgg, SX.NotAgg, Go.Value.cells, cfg61, hat', lseC, hx, c1, hil]
    refine ⟨by (unfold SX.Ob; first | trivial | omega | ((try simp only [SX.inK]); (try simp [SX.den, SX.IsU8, SX.AllP, *]); (try omega))), ?_⟩
    intro a6 w6 hr6 _
    exact post_retn (endC2 hr6 rfl rfl rfl tok27 rfl rfl ⟨.slice none 0 0, by rw [hE, hT]; simp [den, denL, tabC, tab0], by rw [hT]; exact OwS.nil.rd, hr6.keeps.toBelow⟩).1
  by_cases c2 : x.e = epoch
  rotate_left
  · have hE : renE t key host epoch ttl = 61 := by rw [renE, if_pos hGd, if_pos hH, if_neg (by rw [hgk]; exact fun h => c2 h.2)]
    have hT : renT t key host epoch ttl = tab0 := if_neg (by omega)
    refine seg cfg61_ok mixed PanicFree.body 1000 [false, false, true] [] h5 (by first | trivial | exact HpRep.nil | assumption) (by kernel_rfl) fun s_ hs_ => ?_
    simp (maxSteps := 10000000) [SX.vc, SX.stop, SX.contS, SX.contB, SX.sxStep, SX.stepPure, SX.stepNew, SX.stepStore, SX.guardIx, SX.evOp, SX.opd, SX.opds, SX.look, SX.putS, SX.gobs, SX.AllP, SX.leave, SX.lookT, SX.evBin, SX.evInt, SX.evLoad, SX.shapeUp, SX.evFieldAddr, SX.evIndexAddr, SX.evFill, SX.evBuild, SX.szs, SX.cellsV, SX.evNew, SX.evStore, SX.spliceL, SX.SV.cells, SX.evUn, SX.TD.isAgg, SX.NotAgg, Go.Value.cells, cfg61, hat', lseC, hx, c1, c2, hil]
    refine ⟨by (unfold SX.Ob; first | trivial | omega | ((try simp only [SX.inK]); (try simp [SX.den, SX.IsU8, SX.AllP, *]); (try omega))), ?_⟩
    intro a6 w6 hr6 _
    exact post_retn (endC2 hr6 rfl rfl rfl tok27 rfl rfl ⟨.slice none 0 0, by rw [hE, hT]; simp [den, denL, tabC, tab0], by rw [hT]; exact OwS.nil.rd, hr6.keeps.toBelow⟩).1
  have hE : renE t key host epoch ttl = 0 := by rw [renE, if_pos hGd, if_pos hH, if_pos (by rw [hgk]; exact ⟨c1, c2⟩)]
  have hT : renT t key host epoch ttl = ⟨t.last, t.now, t.L.map (upK key (t.now + ttl))⟩ := if_pos hE
  refine seg cfg61_ok mixed PanicFree.body 1000 [false, false, false] [] h5 (by first | trivial | exact HpRep.nil | assumption) (by kernel_rfl) fun s_ hs_ => ?_
  simp (maxSteps := 10000000) [SX.vc, SX.stop, SX.contS, SX.contB, SX.sxStep, SX.stepPure, SX.stepNew, SX.stepStore, SX.guardIx, SX.evOp, SX.opd, SX.look, SX.putS, SX.gobs, SX.AllP, SX.leave, SX.lookT, SX.evBin, SX.evInt, SX.evLoad, SX.shapeUp, SX.evFieldAddr, SX.evIndexAddr, SX.evNew, SX.evStore, SX.evUn, SX.TD.isAgg, cfg61, hat', lseC, hx, c1, c2, hil]
  refine ⟨by (unfold SX.Ob; first | trivial | omega | ((try simp only [SX.inK]); (try simp [SX.den, SX.IsU8, SX.AllP, *]); (try omega))), ?_⟩
  intro a6 w6 hr6 _
  have hA6 := hr6.all
  have z6 : w.heap.size ≤ w6.heap.size := hr6.keeps.size
  refine post_call 40 [.sl 2 b o0 0 t.L.length cp 4] hr6 (by first | exact wanted_none rfl | exact wanted_zero (hr6.env.same rfl rfl rfl rfl) rfl (by simp) | exact wanted_zero (hr6.env.same rfl rfl rfl rfl) rfl (by simp [*])) rfl (callable 40 Try.func40) ((by simpa [denL, den] using clone_all w6 _ t.L (hL.below hr6.keeps.toBelow) (by omega))) ?_
  rintro e7 w7 ⟨v6, rfl, hO7, hb7⟩
  refine ⟨_, rfl, ?_⟩
  have h7 := hr6.ret hb7 49 (.v v6) rfl _ (hr6.all.below hb7) (by simp) rfl
  obtain ⟨bC, N, capC, uC, row, hPC, rfl, hc0, hc1, hc2, hrepC, hrowC⟩ := hO7.opn hik.1
  have hA7 := h7.all
  have k0 := SO.rep_lt hA6.1.1
  have k1 := SO.rep_lt hA6.2.1.1
  have hri : row i = [.v (.int .i64 x.k), .v (.int .i64 x.h), .v (.int .i64 x.e), .v (.int .i64 x.u)] := by rw [hrowC i hil, hx]; rfl
  have hiN : i < N := by omega
  have h8 := (h7.top 49 (.sl 2 bC 0 0 t.L.length capC 4) rfl (by simp [den])).see [(sA, true, .cells [.v (.int .i64 t.last), .v (.int .i64 t.now), .v (.slice (some ⟨b, o0, none⟩) t.L.length cp)] 27), (sA + 1, true, .cells [.v (.int .i64 0), .v (.int .i64 0), .v (.slice none 0 0)] 27), (bC, true, .arr 0 N row 4 uC (0, 0))] ⟨⟨by simpa [SO.rep, denL, den] using hA7.1.1, hA7.1.2.1, by simp; omega⟩, ⟨hA7.2.1.1, hA7.2.1.2.1, by simp; omega⟩, ⟨hrepC, fun _ => .inl (Nat.le_trans z6 hPC), by simp⟩, trivial⟩
  obtain ⟨q, hq⟩ : ∃ q, (if x.u < t.now + ttl then t.now + ttl else x.u) = q := ⟨_, rfl⟩
  refine seg cfg61_ok mixed PanicFree.body 1000 [] [] h8 (by first | trivial | exact HpRep.nil | assumption) (by kernel_rfl) fun s_ hs_ => ?_
  simp (maxSteps := 10000000) [SX.vc, SX.stop, SX.contS, SX.contR, SX.contD, SX.sxStep, SX.stepPure, SX.stepNew, SX.stepStore, SX.guardIx, SX.evOp, SX.opd, SX.opds, SX.look, SX.putS, SX.gobs, SX.AllP, SX.leave, SX.lookT, SX.lookN, SX.evBuiltin, SX.ints, SX.foldI, SX.evBin, SX.evInt, SX.arith, SX.evLoad, SX.shapeUp, SX.evFieldAddr, SX.evIndexAddr, SX.evNew, SX.evStore, SX.spliceL, SX.SV.cells, SX.TD.isAgg, SX.tails, SX.NotAgg, SX.thaw, SX.frz, SX.Froz, SX.frzStep, cfg61, hri, hq]
  refine ⟨by (unfold SX.Ob; first | trivial | omega | ((try simp only [SX.inK]); (try simp [SX.den, SX.IsU8, SX.AllP, *]); (try omega))), ?_⟩
  intro a9 w9 hr9 _
  have hA9 := hr9.all
  refine post_retn (endC2 hr9 rfl rfl rfl tok27 rfl rfl ⟨.slice (some ⟨bC, 0, none⟩) t.L.length capC, by rw [hE, hT]; simp [den, denL, tabC], ?_, hr9.keeps.toBelow⟩).1
  rw [hT, ← hup]
  have hmq : maxI x.u (t.now + ttl) = q := hq
  refine .inr ⟨by simp; omega, bC, 0, capC, uC, (0, 0), Nat.le_trans z6 hPC, by simp, rep_arr_sub hA9.2.2.1.1 (by simp; omega) (fun j hj => ?_), by simpa using hc1⟩
  have hj' : j < t.L.length := by simpa using hj
  unfold setRow
  by_cases hji : j = i
  · subst hji
    rw [if_pos rfl, nth_lt (by simpa using hj'), hmq]
    simp [lseC, denL, den]
  · rw [if_neg hji, hrowC j hj', nth_lt hj', nth_lt (by simpa using hj'), List.getElem_set_ne (by omega)]
end Go.Proofs.L6
namespace Go.Proofs.L6
open Go Go.Proofs Go.SX Go.RowKit
def Bnd (last now prev : Int) (s : Lse) : Prop := prev < s.k ∧ 0 ≤ s.h ∧ s.h < 8 ∧ 1 ≤ s.e ∧ s.e ≤ last ∧ now < s.u
def Rl (a b : Lse) : Prop := a.k < b.k ∧ a.e ≠ b.e
theorem chkL_pw (last now : Int) : ∀ (L : List Lse) (prev : Int) (met : List Int), ChkL last now prev met L ↔ (∀ x ∈ L, Bnd last now prev x ∧ x.e ∉ met) ∧ L.Pairwise Rl
  | [], _, _ => by simp [ChkL]
  | s :: r, prev, met => by
    rw [ChkL, chkL_pw last now r s.k (s.e :: met), List.pairwise_cons]
    constructor
    · rintro ⟨⟨a1, a2, a3, a4, a5, a6, a7⟩, h2, h3⟩
      refine ⟨fun x hx => ?_, fun x hx => ⟨(h2 x hx).1.1, fun h => (h2 x hx).2 (by rw [← h]; exact List.mem_cons_self)⟩, h3⟩
      rcases List.mem_cons.1 hx with rfl | hx
      · exact ⟨⟨a1, a2, a3, a4, a5, a6⟩, a7⟩
      · obtain ⟨⟨b1, b2⟩, b3⟩ := h2 x hx
        exact ⟨⟨by omega, b2⟩, fun h => b3 (List.mem_cons_of_mem _ h)⟩
    · rintro ⟨h1, h2, h3⟩
      obtain ⟨⟨a1, a2, a3, a4, a5, a6⟩, a7⟩ := h1 s (by simp)
      refine ⟨⟨a1, a2, a3, a4, a5, a6, a7⟩, fun x hx => ?_, h3⟩
      obtain ⟨⟨b1, b2⟩, b3⟩ := h1 x (by simp [hx])
      refine ⟨⟨(h2 x hx).1, b2⟩, fun h => ?_⟩
      rcases List.mem_cons.1 h with h | h
      · exact (h2 x hx).2 h.symm
      · exact b3 h
theorem chkT_iff (t : Tab) : ChkT t ↔ (∀ x ∈ t.L, Bnd t.last t.now (-1) x) ∧ t.L.Pairwise Rl ∧ 0 ≤ t.last ∧ 0 ≤ t.now := by
  unfold ChkT
  rw [chkL_pw]
  simp only [List.not_mem_nil, not_false_eq_true, and_true, and_assoc]
theorem pw_ne : ∀ {L : List Lse}, L.Pairwise Rl → ∀ {a b : Lse}, a ∈ L → b ∈ L → a.k < b.k → a.e ≠ b.e
  | [], _, _, _, h, _, _ => by cases h
  | s :: r, h, a, b, ha, hb, hk => by
    rw [List.pairwise_cons] at h
    rcases List.mem_cons.1 ha with g1 | g1 <;> rcases List.mem_cons.1 hb with g2 | g2
    · rw [g1, g2] at hk; omega
    · rw [g1]; exact (h.1 b g2).2
    · have := (h.1 a g1).1
      rw [g2] at hk
      omega
    · exact pw_ne h.2 g1 g2 hk
theorem pw_eq : ∀ {L : List Lse}, L.Pairwise Rl → ∀ {a b : Lse}, a ∈ L → b ∈ L → a.k = b.k → a = b
  | [], _, _, _, h, _, _ => by cases h
  | s :: r, h, a, b, ha, hb, hk => by
    rw [List.pairwise_cons] at h
    rcases List.mem_cons.1 ha with g1 | g1 <;> rcases List.mem_cons.1 hb with g2 | g2
    · rw [g1, g2]
    · have := (h.1 b g2).1
      rw [g1] at hk
      omega
    · have := (h.1 a g1).1
      rw [g2] at hk
      omega
    · exact pw_eq h.2 g1 g2 hk
theorem mem_insK {x y : Lse} {L : List Lse} : y ∈ insK x L ↔ y = x ∨ (y ∈ L ∧ y.k ≠ x.k) := by
  simp only [insK, List.mem_append, List.mem_cons, List.mem_filter, decide_eq_true_eq]
  constructor
  · rintro (⟨h1, h2⟩ | h | ⟨h1, h2⟩)
    · exact .inr ⟨h1, by omega⟩
    · exact .inl h
    · exact .inr ⟨h1, by omega⟩
  · rintro (h | ⟨h1, h2⟩)
    · exact .inr (.inl h)
    · rcases Int.lt_or_le y.k x.k with h | h
      · exact .inl ⟨h1, h⟩
      · exact .inr (.inr ⟨h1, by omega⟩)
theorem pw_ins {x : Lse} {L : List Lse} (h : L.Pairwise Rl) (he : ∀ y ∈ L, y.e ≠ x.e) : (insK x L).Pairwise Rl := by
  unfold insK
  rw [List.pairwise_append, List.pairwise_cons]
  refine ⟨h.filter _, ⟨fun y hy => ?_, h.filter _⟩, fun a ha b hb => ?_⟩
  · simp only [List.mem_filter, decide_eq_true_eq] at hy
    exact ⟨hy.2, fun h' => he y hy.1 h'.symm⟩
  · simp only [List.mem_filter, decide_eq_true_eq] at ha
    rcases List.mem_cons.1 hb with rfl | hb
    · exact ⟨ha.2, he a ha.1⟩
    · simp only [List.mem_filter, decide_eq_true_eq] at hb
      exact ⟨by omega, pw_ne h ha.1 hb.1 (by omega)⟩
theorem chkT_grant {t : Tab} {key host ttl : Int} (h : GrantOK t key host ttl) : ChkT ⟨t.last + 1, t.now, insK (newX t key host ttl) t.L⟩ := by
  obtain ⟨⟨g1, g2, gc⟩, k0, h0, h8⟩ := h
  rw [chkT_iff] at gc ⊢
  obtain ⟨c1, c2, c3, c4⟩ := gc
  refine ⟨fun y hy => ?_, pw_ins c2 fun y hy => ?_, by show 0 ≤ t.last + 1; omega, c4⟩
  · rcases mem_insK.1 hy with rfl | ⟨hy, _⟩
    · refine ⟨?_, h0, h8, ?_, ?_, ?_⟩ <;> simp only [newX] <;> omega
    · obtain ⟨b1, b2, b3, b4, b5, b6⟩ := c1 y hy
      exact ⟨b1, b2, b3, b4, by show y.e ≤ t.last + 1; omega, b6⟩
  · obtain ⟨b1, b2, b3, b4, b5, b6⟩ := c1 y hy
    simp only [newX]
    omega
theorem chkT_more {t : Tab} (h : ChkT t) : ChkT ⟨t.last + 1, t.now, t.L⟩ := by
  rw [chkT_iff] at h ⊢
  obtain ⟨c1, c2, c3, c4⟩ := h
  refine ⟨fun y hy => ?_, c2, by show 0 ≤ t.last + 1; omega, c4⟩
  obtain ⟨b1, b2, b3, b4, b5, b6⟩ := c1 y hy
  exact ⟨b1, b2, b3, b4, by show y.e ≤ t.last + 1; omega, b6⟩
end Go.Proofs.L6
namespace Go.Proofs.L6
open Go Go.Proofs Go.SX Go.RowKit
def NearT (t : Tab) : Prop := t.last < 1152921504606846976 ∧ t.now < 1152921504606846976
instance (t : Tab) : Decidable (NearT t) := by unfold NearT; infer_instance
def FewP (t : Tab) (n : Nat) : Prop := t.L.length ≤ 100 ∧ n ≤ 100 ∧ NearT t
instance (t : Tab) (n : Nat) : Decidable (FewP t n) := by unfold FewP; infer_instance
end Go.Proofs.L6
namespace Go.Proofs.L6
open Go Go.Proofs Go.SX Go.RowKit
def HasT (t : Tab) (key : Int) : Prop := ChkT t ∧ HasK t.L key
instance (t : Tab) (key : Int) : Decidable (HasT t key) := by unfold HasT; infer_instance
def holdX (t : Tab) (key : Int) : Lse := if HasT t key then getK t.L key else lse0
def HoldR (w : World) (t : Tab) (key : Int) (e : Ending) (w' : World) : Prop := e = .returned (den (.tu [.ag (lseC (holdX t key)), .v (.bool (decide (HasT t key)))])) ∧ Below w.heap.size w w'
set_option maxRecDepth 100000 in
set_option maxHeartbeats 16000000 in
theorem Holder_ok {P : Nat → Prop} (w : World) (v : Value) (t : Tab) (key : Int) (hL : RdL P w v t.L) (hn : t.L.length ≤ 100000) : Calls Try.prog 62 (denL [.ag (tabC t v), .v (.int .i64 key)]).toArray w (HoldR w t key) := by
  refine enter (F := frame0 w) Try.func62 rfl [.ag (tabC t v), .v (.int .i64 key)] [] (by simp [Try.f62]) trivial (keeps0 w) fun a hr => ?_
  obtain ⟨ad, cp, rfl⟩ := hL.slice
  refine seg cfg62_ok mixed PanicFree.body 1000 [] [] hr (by first | trivial | exact HpRep.nil | assumption) (by kernel_rfl) fun sA hsA => ?_
  simp (maxSteps := 10000000) [SX.vc, SX.stop, SX.contS, SX.sxStep, SX.stepPure, SX.stepNew, SX.stepStore, SX.guardIx, SX.evOp, SX.opd, SX.look, SX.putS, SX.gobs, SX.AllP, SX.leave, SX.lookT, SX.evLoad, SX.shapeUp, SX.cellsV, SX.evNew, SX.evStore, SX.SV.cells, SX.env0, SX.TD.isAgg, Go.Value.cells, cfg62, Try.f62, tabC]
  refine ⟨by (unfold SX.Ob; first | trivial | omega | ((try simp only [SX.inK]); (try simp [SX.den, SX.IsU8, SX.AllP, *]); (try omega))), ?_⟩
  intro a1 w1 hr1 _
  refine post_call 84 [.ag [.v (.int .i64 t.last), .v (.int .i64 t.now), .v (.slice ad t.L.length cp)], .v (.int .i64 key)] hr1 (by first | exact wanted_none rfl | exact wanted_zero (hr1.env.same rfl rfl rfl rfl) rfl (by simp) | exact wanted_zero (hr1.env.same rfl rfl rfl rfl) rfl (by simp [*])) rfl (callable 84 Try.func84) (find_ok w1 _ t key (hL.below hr1.keeps.toBelow) (by omega)) ?_
  rintro e2 w2 ⟨i, rfl, hpl, hb2⟩
  refine ⟨_, rfl, ?_⟩
  have h2 := hr1.ret hb2 11 (.tu [.v (.int .i64 i), .v (.bool (isAt t.L key i))]) rfl _ (hr1.all.below hb2) (by simp) rfl
  by_cases hat : isAt t.L key i = true
  rotate_left
  · have hat' : isAt t.L key i = false := by simpa using hat
    have hno : ¬ HasT t key := fun h => by
      have := place_has hpl (chk_srt h.1)
      rw [hat'] at this
      simp at this
      exact this h.2
    have hX : holdX t key = lse0 := if_neg hno
    refine seg cfg62_ok mixed PanicFree.body 1000 [true] [(16, true)] h2 (by first | trivial | exact HpRep.nil | assumption) (by kernel_rfl) fun s_ hs_ => ?_
    simp (maxSteps := 10000000) [SX.vc, SX.stop, SX.contS, SX.contB, SX.sxStep, SX.stepPure, SX.stepNew, SX.stepStore, SX.guardIx, SX.evOp, SX.opd, SX.opds, SX.look, SX.putS, SX.gobs, SX.AllP, SX.leave, SX.lookB, SX.lookT, SX.evFill, SX.evBuild, SX.szs, SX.cellsV, SX.evNew, SX.evStore, SX.spliceL, SX.SV.cells, SX.evUn, SX.evPick, SX.cnd, SX.NotAgg, Go.Value.cells, Go.undef, cfg62, hat']
    refine ⟨by (unfold SX.Ob; first | trivial | omega | ((try simp only [SX.inK]); (try simp [SX.den, SX.IsU8, SX.AllP, *]); (try omega))), ?_⟩
    intro a3 w3 hr3 _
    exact post_retn (endC2 hr3 rfl rfl rfl tok38 rfl rfl ⟨by rw [hX, decide_eq_false hno]; simp [den, denL, lseC, lse0], hr3.keeps.toBelow⟩).1
  refine seg cfg62_ok mixed PanicFree.body 1000 [] [(16, false)] h2 (by first | trivial | exact HpRep.nil | assumption) (by kernel_rfl) fun s_ hs_ => ?_
  simp (maxSteps := 10000000) [SX.vc, SX.stop, SX.contS, SX.sxStep, SX.stepPure, SX.stepNew, SX.stepStore, SX.guardIx, SX.evOp, SX.opd, SX.look, SX.putS, SX.gobs, SX.AllP, SX.leave, SX.lookB, SX.lookT, SX.evLoad, SX.shapeUp, SX.evNew, SX.evStore, SX.evUn, SX.cnd, SX.TD.isAgg, cfg62, hat]
  refine ⟨by (unfold SX.Ob; first | trivial | omega | ((try simp only [SX.inK]); (try simp [SX.den, SX.IsU8, SX.AllP, *]); (try omega))), ?_⟩
  intro a3 w3 hr3 _
  refine post_call 76 [.ag [.v (.int .i64 t.last), .v (.int .i64 t.now), .v (.slice ad t.L.length cp)]] hr3 (by first | exact wanted_none rfl | exact wanted_zero (hr3.env.same rfl rfl rfl rfl) rfl (by simp) | exact wanted_zero (hr3.env.same rfl rfl rfl rfl) rfl (by simp [*])) rfl (callable 76 Try.func76) (check_ok w3 _ t (hL.below hr3.keeps.toBelow) (by omega)) ?_
  rintro e4 w4 ⟨rfl, hb4⟩
  refine ⟨_, rfl, ?_⟩
  have h4 := hr3.ret hb4 18 (.v (.int .i64 (chkT t))) rfl _ (hr3.all.below hb4) (by simp) rfl
  by_cases hC : ChkT t
  rotate_left
  · have hc : chkT t = 1 := if_neg hC
    have hno : ¬ HasT t key := fun h => hC h.1
    have hX : holdX t key = lse0 := if_neg hno
    refine seg cfg62_ok mixed PanicFree.body 1000 [true] [(16, false)] h4 (by first | trivial | exact HpRep.nil | assumption) (by kernel_rfl) fun s_ hs_ => ?_
    simp (maxSteps := 10000000) [SX.vc, SX.stop, SX.contS, SX.contB, SX.sxStep, SX.stepPure, SX.stepNew, SX.stepStore, SX.guardIx, SX.evOp, SX.opd, SX.opds, SX.look, SX.putS, SX.gobs, SX.AllP, SX.leave, SX.lookB, SX.lookT, SX.evBin, SX.evInt, SX.evFill, SX.evBuild, SX.szs, SX.cellsV, SX.evNew, SX.evStore, SX.spliceL, SX.SV.cells, SX.evPick, SX.cnd, SX.NotAgg, Go.Value.cells, cfg62, hc]
    refine ⟨by (unfold SX.Ob; first | trivial | omega | ((try simp only [SX.inK]); (try simp [SX.den, SX.IsU8, SX.AllP, *]); (try omega))), ?_⟩
    intro a5 w5 hr5 _
    exact post_retn (endC2 hr5 rfl rfl rfl tok38 rfl rfl ⟨by rw [hX, decide_eq_false hno]; simp [den, denL, lseC, lse0], hr5.keeps.toBelow⟩).1
  have hc : chkT t = 0 := if_pos hC
  have hH : HasK t.L key := by
    have := place_has hpl (chk_srt hC)
    rw [hat] at this
    simpa using this.symm
  have hyes : HasT t key := ⟨hC, hH⟩
  have hik : i < t.L.length ∧ (nth lse0 t.L i).k = key := by simpa [isAt] using hat
  have hX : holdX t key = nth lse0 t.L i := by rw [holdX, if_pos hyes, getK_at (chk_srt hC) hik.1 hik.2]
  obtain ⟨b, o0, cap, u, fz, hP, hv, hrep⟩ := hL.opn hik.1
  cases hv
  have hbw := SO.rep_lt hrep
  obtain ⟨x, hx⟩ : ∃ x, nth lse0 t.L i = x := ⟨_, rfl⟩
  have hA4 := h4.all
  have hrep4 := SO.rep_same hrep (h4.keeps.toBelow.block _ hbw)
  have hil := hik.1
  have h5 := h4.see [(sA, true, .cells [.v (.int .i64 t.last), .v (.int .i64 t.now), .sl 2 b o0 0 t.L.length cp 4] 27), (sA + 1, true, .cells [.v (.int .i64 0), .v (.int .i64 0), .v (.int .i64 0), .v (.int .i64 0)] 38), (b, false, .arr o0 t.L.length (fun j => lseC (nth lse0 t.L j)) 4 u fz)] ⟨⟨by simpa [SO.rep, denL, den] using hA4.1.1, hA4.1.2.1, by simp; omega⟩, ⟨hA4.2.1.1, hA4.2.1.2.1, by simp; omega⟩, HpAll.one hrep4⟩
  refine seg cfg62_ok mixed PanicFree.body 1000 [false] [(16, false)] h5 (by first | trivial | exact HpRep.nil | assumption) (by kernel_rfl) fun s_ hs_ => ?_
  simp (maxSteps := 10000000) [SX.vc, SX.stop, SX.contS, SX.contB, SX.sxStep, SX.stepPure, SX.stepNew, SX.stepStore, SX.guardIx, SX.evOp, SX.opd, SX.look, SX.putS, SX.gobs, SX.AllP, SX.leave, SX.lookB, SX.lookT, SX.evBin, SX.evInt, SX.evLoad, SX.shapeUp, SX.evFieldAddr, SX.evIndexAddr, SX.evNew, SX.evStore, SX.spliceL, SX.SV.cells, SX.evPick, SX.cnd, SX.TD.isAgg, SX.NotAgg, cfg62, hc, lseC, hx, hil]
  refine ⟨by (unfold SX.Ob; first | trivial | omega | ((try simp only [SX.inK]); (try simp [SX.den, SX.IsU8, SX.AllP, *]); (try omega))), ?_⟩
  intro a6 w6 hr6 _
  exact post_retn (endC2 hr6 rfl rfl rfl tok38 rfl rfl ⟨by rw [hX, decide_eq_true hyes, hx]; simp [den, denL, lseC], hr6.keeps.toBelow⟩).1
end Go.Proofs.L6
namespace Go.Proofs.L6
open Go Go.Proofs Go.SX Go.RowKit
theorem pw_map {f : Lse → Lse} (hk : ∀ x, (f x).k = x.k) (he : ∀ x, (f x).e = x.e) {L : List Lse} (h : L.Pairwise Rl) : (L.map f).Pairwise Rl := by
  rw [List.pairwise_map]
  refine h.imp fun {a b} hab => ?_
  unfold Rl at hab ⊢
  rw [hk, hk, he, he]
  exact hab
theorem upK_k {key m : Int} (x : Lse) : (upK key m x).k = x.k := by unfold upK; split <;> rfl
theorem upK_e {key m : Int} (x : Lse) : (upK key m x).e = x.e := by unfold upK; split <;> rfl
theorem upK_h {key m : Int} (x : Lse) : (upK key m x).h = x.h := by unfold upK; split <;> rfl
theorem upK_u {key m : Int} (x : Lse) : x.u ≤ (upK key m x).u := by
  unfold upK
  split
  · show x.u ≤ maxI x.u m
    unfold maxI
    split <;> omega
  · exact Int.le_refl _
theorem chkT_ren {t : Tab} {key m : Int} (h : ChkT t) : ChkT ⟨t.last, t.now, t.L.map (upK key m)⟩ := by
  rw [chkT_iff] at h ⊢
  obtain ⟨c1, c2, c3, c4⟩ := h
  refine ⟨fun y hy => ?_, pw_map upK_k upK_e c2, c3, c4⟩
  obtain ⟨x, hx, rfl⟩ := List.mem_map.1 hy
  obtain ⟨b1, b2, b3, b4, b5, b6⟩ := c1 x hx
  have := upK_u (key := key) (m := m) x
  exact ⟨by rw [upK_k]; exact b1, by rw [upK_h]; exact b2, by rw [upK_h]; exact b3, by rw [upK_e]; exact b4, by rw [upK_e]; exact b5, by show t.now < _; omega⟩
theorem chkT_del {t : Tab} {key : Int} (h : ChkT t) : ChkT ⟨t.last, t.now, delK key t.L⟩ := by
  rw [chkT_iff] at h ⊢
  obtain ⟨c1, c2, c3, c4⟩ := h
  exact ⟨fun y hy => c1 y (List.mem_filter.1 hy).1, c2.filter _, c3, c4⟩
end Go.Proofs.L6
namespace Go.Proofs.L6
open Go Go.Proofs Go.SX Go.RowKit
theorem chkT_tick {t : Tab} {n : Int} (h : TickOK t n) : ChkT ⟨t.last, n, t.L.filter fun x => decide (n < x.u)⟩ := by
  obtain ⟨hC, hle⟩ := h
  rw [chkT_iff] at hC ⊢
  obtain ⟨c1, c2, c3, c4⟩ := hC
  refine ⟨fun y hy => ?_, c2.filter _, c3, by show 0 ≤ n; omega⟩
  obtain ⟨h1, h2⟩ := List.mem_filter.1 hy
  obtain ⟨b1, b2, b3, b4, b5, b6⟩ := c1 y h1
  exact ⟨b1, b2, b3, b4, b5, by simpa using h2⟩
end Go.Proofs.L6
