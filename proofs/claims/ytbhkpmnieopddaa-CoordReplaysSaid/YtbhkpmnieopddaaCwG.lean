/- CwG: texts of this proof, joined. -/
import Derived.Test.YtbhkpmnieopddaaCwF
set_option linter.unusedVariables false
set_option linter.unusedSimpArgs false
set_option linter.unusedSectionVars false
namespace Go.Proofs.C8
open Go Go.Proofs Go.SX Go.RowKit Go.Proofs.L6
def Cmp (A full : List Nat) : Prop := (∃ R, A = full ++ R) ∨ (A.length < full.length ∧ A = full.take A.length)
def putN (ns : List Nat) : List Nat := (ns.map put).flatten
theorem putN_cons (n : Nat) (ns : List Nat) : putN (n :: ns) = put n ++ putN ns := by simp [putN]
theorem Cmp.numb {A more : List Nat} {n : Nat} (h : Cmp A (put n ++ more)) (hn : n < 9223372036854775808) : Numb A n := by
  refine ⟨hn, ?_⟩
  rcases h with ⟨R, hR⟩ | ⟨h1, h2⟩
  · exact .inl ⟨more ++ R, by rw [hR, List.append_assoc]⟩
  · by_cases h3 : A.length < (put n).length
    · refine .inr ⟨h3, ?_⟩
      rw [List.take_append_of_le_length (by omega)] at h2
      exact h2
    · refine .inl ⟨more.take (A.length - (put n).length), ?_⟩
      rw [List.take_append, List.take_of_length_le (by omega)] at h2
      exact h2
theorem Cmp.next {A more Q : List Nat} {n : Nat} (h : Cmp A (put n ++ more)) (hQ : A = put n ++ Q) : Cmp Q more ∧ ((∃ R, A = (put n ++ more) ++ R) ↔ ∃ R, Q = more ++ R) := by
  subst hQ
  constructor
  · rcases h with ⟨R, hR⟩ | ⟨h1, h2⟩
    · rw [List.append_assoc] at hR
      exact .inl ⟨R, List.append_cancel_left hR⟩
    · refine .inr ⟨by simpa using h1, ?_⟩
      rw [List.length_append, List.take_append, List.take_of_length_le (by omega), Nat.add_sub_cancel_left] at h2
      exact List.append_cancel_left h2
  · constructor
    · rintro ⟨R, hR⟩
      rw [List.append_assoc] at hR
      exact ⟨R, List.append_cancel_left hR⟩
    · rintro ⟨R, rfl⟩
      exact ⟨R, by rw [List.append_assoc]⟩
theorem Cmp.nil {A more : List Nat} {n : Nat} (hno : ¬ ∃ Q, A = put n ++ Q) : ¬ ∃ R, A = (put n ++ more) ++ R := fun ⟨R, hR⟩ => hno ⟨more ++ R, by rw [hR, List.append_assoc]⟩
def ints (ns : List Nat) : List Int := ns.map fun n : Nat => (n : Int)
def RdNumsR (w : World) (R : Nat) (vb : Value) (B : List Nat) (p : Nat) (ns : List Nat) (e : Ending) (w' : World) : Prop :=
  KeepsTo w [R] w' ∧ (((∃ Q, B.drop p = putN ns ++ Q) ∧ (∃ v, e = .returned v ∧ OwI (fun x => w.heap.size ≤ x) w' v (ints ns)) ∧ (SO.cells (rdC vb (p + (putN ns).length : Nat) 0) 120).rep w' R) ∨
    ((¬ ∃ Q, B.drop p = putN ns ++ Q) ∧ e = .returned (.slice none 0 0) ∧ ∃ q : Int, (SO.cells (rdC vb q 20) 120).rep w' R))
def RnLoop (w : World) (R : Nat) (vb : Value) (B : List Nat) (p : Nat) (ns : List Nat) (m : Nat) (a : Act) (w' : World) : Prop :=
  ∃ (k : Nat) (v : Value), m = ns.length - k ∧ k ≤ ns.length ∧ p + (putN (ns.take k)).length ≤ B.length ∧ Cmp (B.drop (p + (putN (ns.take k)).length)) (putN (ns.drop k)) ∧
    ((∃ Q, B.drop p = putN ns ++ Q) ↔ ∃ Q, B.drop (p + (putN (ns.take k)).length) = putN (ns.drop k) ++ Q) ∧ OwI (fun x => w.heap.size ≤ x) w' v (ints (ns.take k)) ∧
    RepX ⟨w, w.heap.size, [R]⟩ ⟨[(8, 0, .v (.int .i64 k)), (7, 0, .v (.int .i64 ns.length)), (5, 0, .v v), (0, 0, .ptr 0 R 0), (4, 0, .v (.slice none 0 0))], [(R, true, .cells (rdC vb (p + (putN (ns.take k)).length : Nat) 0) 120)], 0, 0, 23, [], [], []⟩ a w'
set_option maxRecDepth 100000 in
set_option maxHeartbeats 32000000 in
theorem rnums_ok {P : Nat → Prop} (w : World) (R : Nat) (ad : Option Addr) (cp : Nat) (B : List Nat) (p : Nat) (ns : List Nat) (hR : (SO.cells (rdC (.slice ad B.length cp) p 0) 120).rep w R) (hB : RdU P w (.slice ad B.length cp) B) (nR : ¬ P R) (hp : p ≤ B.length) (hlen : B.length ≤ 1000000) (hC : Cmp (B.drop p) (putN ns)) (hns : ∀ n ∈ ns, n < 9223372036854775808) (hl : ns.length ≤ 100) :
    Calls Try.prog 65 (denL [.ptr 0 R 0, .v (.int .i64 ns.length)]).toArray w (RdNumsR w R (.slice ad B.length cp) B p ns) := by
  obtain ⟨vb, hvb⟩ : ∃ vb, Value.slice ad B.length cp = vb := ⟨_, rfl⟩
  rw [hvb] at hR hB ⊢
  have hRw := SO.rep_lt hR
  have hE : HpAll ⟨w, w.heap.size, [R]⟩ w [(R, true, .cells (rdC vb p 0) 120)] := ⟨⟨hR, fun _ => .inr (by simp), by simp⟩, trivial⟩
  refine enter (F := ⟨w, w.heap.size, [R]⟩) Try.func65 rfl [.ptr 0 R 0, .v (.int .i64 ns.length)] _ (by simp [Try.f65]) hE (KeepsTo.refl w _) fun a hr => ?_
  refine seg cfg65_ok mixed PanicFree.body 1000 [] [] hr (by first | trivial | exact HpRep.nil | assumption) (by kernel_rfl) fun s_ hs_ => ?_
  simp (maxSteps := 10000000) [SX.vc, SX.stop, SX.contS, SX.sxStep, SX.stepPure, SX.guardIx, SX.evOp, SX.opd, SX.look, SX.putS, SX.gobs, SX.AllP, SX.leave, SX.env0, cfg65, Try.f65]
  refine ⟨by (unfold SX.Ob; first | trivial | omega | ((try simp only [SX.inK]); (try simp [SX.den, SX.IsU8, SX.AllP, *]); (try omega))), ?_⟩
  intro a1 w1 hr1 _
  refine post_loop (RnLoop w R vb B p ns) ns.length ⟨0, .slice none 0 0, rfl, by omega, by simpa [putN] using hp, by simpa [putN] using hC, by simp [putN], OwS.nil, hr1.re (by simp [envTo, SX.look]) hr1.all rfl rfl⟩ ?_
  rintro m a2 w2 ⟨k, v, rfl, hk, hpk, hCk, hiff, hO, hr2⟩
  obtain ⟨av, cv, rfl⟩ := hO.slice
  have z2 : w.heap.size ≤ w2.heap.size := hr2.keeps.size
  by_cases hlt : k < ns.length
  rotate_left
  · obtain rfl : k = ns.length := by omega
    rw [List.take_length] at hO hr2 hiff
    refine seg cfg65_ok mixed PanicFree.body 1000 [false] [] hr2.rebase (by first | trivial | exact HpRep.nil | assumption) (by kernel_rfl) fun s_ hs_ => ?_
    simp (maxSteps := 10000000) [SX.vc, SX.stop, SX.contS, SX.contB, SX.contW, SX.sxStep, SX.stepPure, SX.guardIx, SX.evOp, SX.opd, SX.look, SX.putS, SX.gobs, SX.AllP, SX.leave, SX.lookT, SX.evBin, SX.evInt, SX.evLoad, SX.shapeUp, SX.evFieldAddr, SX.evNil, SX.popTo, SX.TD.isAgg, cfg65, rdC]
    refine ⟨by (unfold SX.Ob; first | trivial | omega | ((try simp only [SX.inK]); (try simp [SX.den, SX.IsU8, SX.AllP, *]); (try omega))), ?_⟩
    intro a3 w3 hr3' _
    have hr3 := hr2.unbase hr3'
    exact post_retn (end1 hr3 rfl rfl ⟨hr3.keeps, .inl ⟨hiff.2 ⟨_, by rw [List.drop_length]; rfl⟩, ⟨_, rfl, hO.keep hr3'.keeps (by simp [mutB]; omega)⟩, hr3.all.1.1⟩⟩).1
  obtain ⟨n, hn⟩ : ∃ n, nth 0 ns k = n := ⟨_, rfl⟩
  have hnm : n ∈ ns := hn ▸ nth_mem hlt
  obtain ⟨q, hq⟩ : ∃ q, p + (putN (ns.take k)).length = q := ⟨_, rfl⟩
  rw [hq] at hpk hCk hiff hr2
  have hdk : ns.drop k = n :: ns.drop (k + 1) := by
    rw [List.drop_eq_getElem_cons hlt, ← hn, nth_lt hlt]
  rw [hdk, putN_cons] at hCk hiff
  have hN := hCk.numb (hns n hnm)
  refine seg cfg65_ok mixed PanicFree.body 1000 [true] [] hr2.rebase (by first | trivial | exact HpRep.nil | assumption) (by kernel_rfl) fun s_ hs_ => ?_
  simp (maxSteps := 10000000) [SX.vc, SX.stop, SX.contS, SX.contB, SX.sxStep, SX.stepPure, SX.stepNew, SX.stepStore, SX.guardIx, SX.evOp, SX.opd, SX.opds, SX.look, SX.putS, SX.gobs, SX.AllP, SX.leave, SX.lookT, SX.evBuiltin, SX.evBin, SX.evInt, SX.arith, SX.evLoad, SX.shapeUp, SX.evFieldAddr, SX.evNew, SX.evStore, SX.SV.cells, SX.evNil, SX.TD.isAgg, cfg65, rdC]
  refine ⟨by (unfold SX.Ob; first | trivial | omega | ((try simp only [SX.inK]); (try simp [SX.den, SX.IsU8, SX.AllP, *]); (try omega))), ?_⟩
  intro a3 w3 hr3' _
  have hr3 := hr2.unbase hr3'
  have hO3 := hO.keep hr3'.keeps (by simp [mutB]; omega)
  have z3 : w.heap.size ≤ w3.heap.size := hr3.keeps.size
  have hB3 : RdU P w3 vb B := hB.keep hr3.keeps (by simpa using nR)
  refine post_call 86 [.ptr 0 R 0] hr3 (wanted_none rfl) rfl (callable 86 Try.func86) (num_ok w3 R vb B q n hr3.all.1.1 hB3 nR hpk hlen hN) ?_
  have hnb := hns n hnm
  rintro e4 w4 ⟨hk4, ⟨⟨Q, hQ⟩, rfl, hR4⟩ | ⟨hno, rfl, hR4⟩⟩
  rotate_left
  · refine ⟨_, rfl, ?_⟩
    have hr4 := hr3.retK hk4 (fun x hx => .inr hx) 11 (.v (.int .i64 0)) rfl _ (HpAll.wr hr3.all hk4 hR4) (by simp) rfl
    refine seg cfg65_ok mixed PanicFree.body 1000 [true] [] hr4 (by first | trivial | exact HpRep.nil | assumption) (by kernel_rfl) fun s_ hs_ => ?_
    simp (maxSteps := 10000000) [SX.vc, SX.stop, SX.contS, SX.contB, SX.contW, SX.sxStep, SX.stepPure, SX.guardIx, SX.evOp, SX.opd, SX.look, SX.putS, SX.gobs, SX.AllP, SX.leave, SX.lookT, SX.evBin, SX.evInt, SX.evLoad, SX.shapeUp, SX.evFieldAddr, SX.evNil, SX.popTo, SX.TD.isAgg, cfg65, rdC]
    refine ⟨by (unfold SX.Ob; first | trivial | omega | ((try simp only [SX.inK]); (try simp [SX.den, SX.IsU8, SX.AllP, *]); (try omega))), ?_⟩
    intro a5 w5 hr5 _
    exact post_retn (end1 hr5 rfl rfl ⟨hr5.keeps, .inr ⟨fun h => Cmp.nil hno (hiff.1 h), rfl, _, hr5.all.1.1⟩⟩).1
  refine ⟨_, rfl, ?_⟩
  have hr4 := hr3.retK hk4 (fun x hx => .inr hx) 11 (.v (.int .i64 n)) rfl _ (HpAll.wr hr3.all hk4 hR4) (by simp) rfl
  have hO4 := hO3.keep hk4 (fun x hx h => by
    have : x = R := by simpa using hx
    omega)
  have z4 : w3.heap.size ≤ w4.heap.size := hk4.size
  refine seg cfg65_ok mixed PanicFree.body 1000 [false] [] hr4.rebase (by first | trivial | exact HpRep.nil | assumption) (by kernel_rfl) fun sB hsB => ?_
  simp (maxSteps := 10000000) [SX.vc, SX.stop, SX.contS, SX.contB, SX.sxStep, SX.stepPure, SX.stepNew, SX.stepStore, SX.guardIx, SX.evOp, SX.opd, SX.opds, SX.look, SX.putS, SX.gobs, SX.AllP, SX.leave, SX.lookT, SX.evBuiltin, SX.evBin, SX.evInt, SX.arith, SX.evLoad, SX.shapeUp, SX.evFieldAddr, SX.evNew, SX.evStore, SX.SV.cells, SX.evNil, SX.TD.isAgg, cfg65, rdC]
  refine ⟨by (unfold SX.Ob; first | trivial | omega | ((try simp only [SX.inK]); (try simp [SX.den, SX.IsU8, SX.AllP, *]); (try omega))), ?_⟩
  intro a5 w5 hr5' _
  have hr5 := hr4.unbase hr5'
  have z5 : w4.heap.size ≤ w5.heap.size := hr5'.keeps.size
  have hO5 := hO4.keep hr5'.keeps (by simp [mutB]; omega)
  have hRn : ∀ x ∈ [R], ¬ w.heap.size ≤ x := fun x hx => by
    have : x = R := by simpa using hx
    omega
  have hlk : (ints (ns.take k)).length ≤ 100 := by simp [ints]; omega
  have hHm : ∀ x ∈ ([R] : List Nat), x = R := fun x hx => by simpa using hx
  have hBm : ∀ B' : List Nat, (∀ x ∈ B', w.heap.size ≤ x ∧ x < w5.heap.size) → R ∉ B' := fun B' h hm => by
    have := h R hm
    omega
  refine post_app (C := cfg65) cfg65_ok hr5 (by first | exact wanted_none rfl | exact wanted_zero (hr5.env.same rfl rfl rfl rfl) rfl (by simp)) rfl (by simp) rfl rfl rfl rfl rfl rfl rfl rfl rfl (by decide) (flatI _) (by (try simp only [List.length_cons, List.length_nil]); omega) (fun x hx => by omega) hO5 (RdS.lit (x := (n : Int)) hr5.all.2.1.1 (by simp [L6.intC])) [(R, true, .cells (rdC vb (q + (put n).length : Nat) 0) 120)] (fun w' B' hk hB' => HpAll.to hk (hr5.all.take 1) (fun y hy hyb => hBm B' hB' (hHm y.1 (List.mem_map_of_mem (f := fun x : Nat × Bool × SO => x.1) hy) ▸ hyb))) (fun x hx => .inl hx) fun V6 a6 w6 B6 hO6 hB6 hk6 hr6 => ?_
  have ht : ints (ns.take (k + 1)) = ints (ns.take k) ++ [(n : Int)] := by
    rw [take_nth (d := 0) hlt, hn]
    simp [ints]
  rw [← ht] at hO6
  obtain ⟨a6', c6, rfl⟩ := hO6.slice
  refine seg cfg65_ok mixed PanicFree.body 1000 [] [] hr6.rebase (by first | trivial | exact HpRep.nil | assumption) (by kernel_rfl) fun s_ hs_ => ?_
  simp (maxSteps := 10000000) [SX.vc, SX.stop, SX.contS, SX.contB, SX.sxStep, SX.stepPure, SX.stepNew, SX.stepStore, SX.guardIx, SX.evOp, SX.opd, SX.opds, SX.look, SX.putS, SX.gobs, SX.AllP, SX.leave, SX.lookT, SX.evBuiltin, SX.evBin, SX.evInt, SX.arith, SX.evLoad, SX.shapeUp, SX.evFieldAddr, SX.evNew, SX.evStore, SX.SV.cells, SX.evNil, SX.TD.isAgg, cfg65, rdC]
  refine ⟨by (unfold SX.Ob; first | trivial | omega | ((try simp only [SX.inK]); (try simp [SX.den, SX.IsU8, SX.AllP, *]); (try omega))), ?_⟩
  intro a7 w7 hr7' _
  have hr7 := hr6.unbase hr7'
  have hO7 : OwI (fun x => w.heap.size ≤ x) w7 (.slice a6' (ints (ns.take (k + 1))).length c6) (ints (ns.take (k + 1))) := hO6.keep hr7'.keeps (by simp [mutB]; omega)
  have hq1 : p + (putN (ns.take (k + 1))).length = q + (put n).length := by
    rw [take_nth (d := 0) hlt, hn, ← hq]
    simp [putN]
    omega
  obtain ⟨hn1, hn2⟩ := hCk.next hQ
  have hdrop : B.drop (q + (put n).length) = Q := by
    rw [← List.drop_drop, hQ, List.drop_left]
  have hql : q + (put n).length ≤ B.length := by
    have := congrArg List.length hQ
    simp at this
    omega
  exact post_rnd (ns.length - (k + 1)) (by omega) ⟨k + 1, _, rfl, hlt, by rw [hq1]; exact hql, by rw [hq1, hdrop]; exact hn1, by rw [hq1, hdrop]; exact hiff.trans hn2, hO7, by rw [hq1]; exact hr7.re (by simp [envTo, SX.look, den]) hr7.all rfl rfl⟩
end Go.Proofs.C8
