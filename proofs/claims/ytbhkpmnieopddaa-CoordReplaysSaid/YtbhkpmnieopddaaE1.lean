/- E1: texts of this proof, joined. -/
import Derived.Test.YtbhkpmnieopddaaB2
import Derived.Test.YtbhkpmnieopddaaD2
import Derived.Test.YtbhkpmnieopddaaD1
import Derived.Test.YtbhkpmnieopddaaA3
set_option linter.unusedVariables false
set_option linter.unusedSimpArgs false
set_option linter.unusedSectionVars false
namespace Go.Proofs.C8
open Go Go.Proofs Go.SX Go.RowKit Go.Proofs.L6
structure Fen where
  z : Int
  h : Int
  e : Int
deriving DecidableEq
def fen0 : Fen := ⟨0, 0, 0⟩
def fenC (e : Fen) : List SV := [.v (.int .i64 e.z), .v (.int .i64 e.h), .v (.int .i64 e.e)]
abbrev RdF := RdS fenC 3 fen0
abbrev OwF := OwS fenC 3 fen0
theorem flatF (L : List Fen) : ∀ x ∈ L, ∀ c ∈ fenC x, NotAgg (den c) := by
  intro x _ c hc
  simp only [fenC, List.mem_cons, List.not_mem_nil, or_false] at hc
  rcases hc with rfl | rfl | rfl <;> trivial
def OwR (w : World) (L : List Fen) (e : Ending) (w' : World) : Prop := ∃ v', e = .returned v' ∧ OwF (fun x => w.heap.size ≤ x) w' v' L ∧ Below w.heap.size w w'
set_option maxRecDepth 100000 in
set_option maxHeartbeats 8000000 in
theorem clone_ok {P : Nat → Prop} (w : World) (v : Value) (L : List Fen) (hL : RdF P w v L) (h0 : 0 < L.length) (hn : L.length ≤ 1000000) : Calls Try.prog 42 (denL [.v v]).toArray w (OwR w L) := by
  obtain ⟨b, o0, cap, u, fz, hP, rfl, hrep⟩ := hL.opn h0
  refine enter (F := frame0 w) Try.func42 rfl [.sl 0 b o0 0 L.length cap 3] [(b, false, .arr o0 L.length (fun j => fenC (nth fen0 L j)) 3 u fz)] (by simp [Try.f42]) (HpAll.one hrep) (keeps0 w) fun a hr => ?_
  refine seg cfg42_ok mixed PanicFree.body 1000 [false] [] hr (by first | trivial | exact HpRep.nil | assumption) (by kernel_rfl) fun s_ hs_ => ?_
  simp (maxSteps := 10000000) [SX.vc, SX.stop, SX.contS, SX.contB, SX.sxStep, SX.stepPure, SX.stepNew, SX.stepStore, SX.guardIx, SX.evOp, SX.opd, SX.opds, SX.look, SX.putS, SX.gobs, SX.AllP, SX.leave, SX.lookT, SX.evBuiltin, SX.evBin, SX.evEq, SX.evNew, SX.evStore, SX.SV.cells, SX.env0, cfg42, Try.f42]
  refine ⟨by (unfold SX.Ob; first | trivial | omega | ((try simp only [SX.inK]); (try simp [SX.den, SX.IsU8, SX.AllP, *]); (try omega))), ?_⟩
  intro a1 w1 hr1 _
  obtain ⟨s_0, hs00⟩ : ∃ x, x = s_ := ⟨_, rfl⟩
  subst hs00
  refine post_append cfg42_ok hr1 rfl (d := 7) rfl (by simp) rfl rfl (t := 29) (t' := 29) rfl rfl rfl rfl rfl rfl (by decide) (j := 0) rfl rfl (base2 := 0) (by omega) (.inr ⟨rfl, rfl, Nat.le_refl _, Nat.le_refl _⟩) h0 (by show (2 * (0 + L.length) + 192) * 24 ≤ 281474976710656; omega) (fun j hj z hz => ?_) ?_
  · simp only [fenC, Nat.zero_add, List.mem_cons, List.not_mem_nil, or_false] at hz
    rcases hz with rfl | rfl | rfl <;> trivial
  intro a3 w3 b' cap' N' row' u' hc1' hc2' hrow0 hrow1 hb' hr3
  refine seg cfg42_ok mixed PanicFree.body 1000 [] [] hr3 (by first | trivial | exact HpRep.nil | assumption) (by kernel_rfl) fun s_ hs_ => ?_
  simp (maxSteps := 10000000) [SX.vc, SX.stop, SX.contS, SX.sxStep, SX.stepPure, SX.guardIx, SX.evOp, SX.opd, SX.look, SX.putS, SX.gobs, SX.AllP, SX.leave, cfg42]
  refine ⟨by (unfold SX.Ob; first | trivial | omega | ((try simp only [SX.inK]); (try simp [SX.den, SX.IsU8, SX.AllP, *]); (try omega))), ?_⟩
  intro a4 w4 hr4 _
  have hA := hr4.all
  have hbb : w.heap.size ≤ b' := by
    have h10 : w.heap.size ≤ w1.heap.size := hr1.keeps.size
    have h11 := hr1.all.2.1.2.1
    rcases hb' with ⟨h, rfl⟩ | rfl
    · cases h
      rcases h11 rfl with h | h
      · exact h
      · cases h
    · exact h10
  exact post_retn (end1 hr4 rfl rfl ⟨_, rfl, .inr ⟨b', N', cap', u', row', hbb, by simp [den], by omega, by omega, hc2', hA.2.1.1, fun j hj => by have := hrow1 j hj; simpa using this⟩, hr4.keeps.toBelow⟩).1
set_option maxRecDepth 100000 in
set_option maxHeartbeats 8000000 in
theorem clone_all {P : Nat → Prop} (w : World) (v : Value) (L : List Fen) (hL : RdF P w v L) (hn : L.length ≤ 1000000) : Calls Try.prog 42 (denL [.v v]).toArray w (OwR w L) := by
  rcases Nat.eq_zero_or_pos L.length with h0 | h0
  rotate_left
  · exact clone_ok w v L hL h0 hn
  obtain rfl : L = [] := List.length_eq_zero_iff.1 h0
  obtain ⟨ad, cp, rfl⟩ := hL.slice
  rcases ad with _ | ad
  · refine enter (F := frame0 w) Try.func42 rfl [.v (.slice none 0 cp)] [] (by simp [Try.f42]) trivial (keeps0 w) fun a hr => ?_
    refine seg cfg42_ok mixed PanicFree.body 1000 [true] [] hr (by first | trivial | exact HpRep.nil | assumption) (by kernel_rfl) fun s_ hs_ => ?_
    simp (maxSteps := 10000000) [SX.vc, SX.stop, SX.contS, SX.contB, SX.sxStep, SX.stepPure, SX.stepNew, SX.stepStore, SX.guardIx, SX.evOp, SX.opd, SX.opds, SX.look, SX.putS, SX.gobs, SX.AllP, SX.leave, SX.lookT, SX.evBuiltin, SX.evBin, SX.evEq, SX.evNew, SX.evStore, SX.SV.cells, SX.env0, cfg42, Try.f42]
    refine ⟨by (unfold SX.Ob; first | trivial | omega | ((try simp only [SX.inK]); (try simp [SX.den, SX.IsU8, SX.AllP, *]); (try omega))), ?_⟩
    intro a1 w1 hr1 _
    exact post_retn (end1 hr1 rfl rfl ⟨_, rfl, OwS.nil, hr1.keeps.toBelow⟩).1
  · refine enter (F := frame0 w) Try.func42 rfl [.v (.slice (some ad) 0 cp)] [] (by simp [Try.f42]) trivial (keeps0 w) fun a hr => ?_
    refine seg cfg42_ok mixed PanicFree.body 1000 [false] [] hr (by first | trivial | exact HpRep.nil | assumption) (by kernel_rfl) fun sN hsN => ?_
    simp (maxSteps := 10000000) [SX.vc, SX.stop, SX.contS, SX.contB, SX.sxStep, SX.stepPure, SX.stepNew, SX.stepStore, SX.guardIx, SX.evOp, SX.opd, SX.opds, SX.look, SX.putS, SX.gobs, SX.AllP, SX.leave, SX.lookT, SX.evBuiltin, SX.evBin, SX.evEq, SX.evNew, SX.evStore, SX.SV.cells, SX.env0, cfg42, Try.f42]
    refine ⟨by (unfold SX.Ob; first | trivial | omega | ((try simp only [SX.inK]); (try simp [SX.den, SX.IsU8, SX.AllP, *]); (try omega))), ?_⟩
    intro a1 w1 hr1 _
    refine post_append0 cfg42_ok hr1 (wanted_none rfl) rfl (by simp) rfl rfl rfl rfl rfl rfl rfl rfl rfl (Nat.le_refl _) fun a2 hr2 => ?_
    refine seg cfg42_ok mixed PanicFree.body 1000 [] [] hr2 (by first | trivial | exact HpRep.nil | assumption) (by kernel_rfl) fun s_ hs_ => ?_
    simp (maxSteps := 10000000) [SX.vc, SX.stop, SX.contS, SX.sxStep, SX.stepPure, SX.guardIx, SX.evOp, SX.opd, SX.look, SX.putS, SX.gobs, SX.AllP, SX.leave, cfg42]
    refine ⟨by (unfold SX.Ob; first | trivial | omega | ((try simp only [SX.inK]); (try simp [SX.den, SX.IsU8, SX.AllP, *]); (try omega))), ?_⟩
    intro a3 w3 hr3 _
    exact post_retn (end1 hr3 rfl rfl ⟨_, rfl, .inl ⟨rfl, _, rfl⟩, hr3.keeps.toBelow⟩).1
def IxR (w : World) (L : List Fen) (q : Fen → Bool) (e : Ending) (w' : World) : Prop := ((∃ k : Nat, e = .returned (.int .i64 k) ∧ k < L.length ∧ q (nth fen0 L k) = true ∧ ∀ j, j < k → q (nth fen0 L j) = false) ∨ (e = .returned (.int .i64 (-1)) ∧ ∀ j, j < L.length → q (nth fen0 L j) = false)) ∧ Below w.heap.size w w'
def IxLoop (g : Nat) (w : World) (v : Value) (L : List Fen) (q : Fen → Bool) (c3 : Nat) (m : Nat) (a : Act) (w' : World) : Prop :=
  ∃ k : Nat, m = L.length - k ∧ k ≤ L.length ∧ (∀ j, j < k → q (nth fen0 L j) = false) ∧ RepX (frame0 w) ⟨[(8, 0, .v (.int .i64 k)), (7, 0, .v (.int .i64 L.length)), (0, 0, .v v), (1, 0, .fn (.func g) [] [.ptr 0 c3 0])], [], 0, 0, 19, [], [], []⟩ a w'
set_option maxRecDepth 100000 in
set_option maxHeartbeats 8000000 in
theorem ixf_ok {P : Nat → Prop} (g : Nat) (hcg : Callable Try.prog g) (w : World) (v : Value) (L : List Fen) (q : Fen → Bool) (c3 : Nat) (hL : RdF P w v L) (hn : L.length ≤ 1000000) (ok : World → Prop) (hok : ∀ w1 w2, ok w1 → KeepsTo w1 [] w2 → ok w2) (hw : ok w)
    (hq : ∀ w' x, ok w' → Calls Try.prog g (denL [.ag (fenC x), .ptr 0 c3 0]).toArray w' (Ret w' (.v (.bool (q x))))) : Calls Try.prog 48 (denL [.v v, .fn (.func g) [] [.ptr 0 c3 0]]).toArray w (IxR w L q) := by
  obtain ⟨ad, cp, rfl⟩ := hL.slice
  refine enter (F := frame0 w) Try.func48 rfl [.v (.slice ad L.length cp), .fn (.func g) [] [.ptr 0 c3 0]] [] (by simp [Try.f48]) trivial (keeps0 w) fun a hr => ?_
  refine seg cfg48_ok mixed PanicFree.body 1000 [] [] hr (by first | trivial | exact HpRep.nil | assumption) (by kernel_rfl) fun s_ hs_ => ?_
  simp (maxSteps := 10000000) [SX.vc, SX.stop, SX.contS, SX.sxStep, SX.stepPure, SX.guardIx, SX.evOp, SX.opd, SX.opds, SX.look, SX.putS, SX.gobs, SX.AllP, SX.leave, SX.lookT, SX.evBuiltin, SX.env0, cfg48, Try.f48]
  refine ⟨by (unfold SX.Ob; first | trivial | omega | ((try simp only [SX.inK]); (try simp [SX.den, SX.IsU8, SX.AllP, *]); (try omega))), ?_⟩
  intro a1 w1 hr1 _
  refine post_loop (IxLoop g w (.slice ad L.length cp) L q c3) L.length ⟨0, rfl, by omega, by omega, hr1.re (by simp [envTo, SX.look]) trivial rfl rfl⟩ ?_
  rintro m a2 w2 ⟨k, rfl, hk, hs, hr2⟩
  by_cases hlt : k < L.length
  · obtain ⟨b, o0, cap, u, fz, hP, hv, hrep⟩ := hL.opn hlt
    cases hv
    have hrep2 := SO.rep_same hrep (hr2.keeps.toBelow.block _ (SO.rep_lt hrep))
    obtain ⟨x, hx⟩ : ∃ x, nth fen0 L k = x := ⟨_, rfl⟩
    have h2 := (hr2.top 0 (.sl 0 b o0 0 L.length cp 3) rfl (by simp [den])).see _ (HpAll.one hrep2)
    refine seg cfg48_ok mixed PanicFree.body 1000 [true] [] h2 (by first | trivial | exact HpRep.nil | assumption) (by kernel_rfl) fun s_ hs_ => ?_
    simp (maxSteps := 10000000) [SX.vc, SX.stop, SX.contS, SX.contB, SX.sxStep, SX.stepPure, SX.stepNew, SX.stepStore, SX.guardIx, SX.evOp, SX.opd, SX.look, SX.putS, SX.gobs, SX.AllP, SX.leave, SX.lookT, SX.evBin, SX.evInt, SX.evLoad, SX.shapeUp, SX.evIndexAddr, SX.evNew, SX.evStore, SX.TD.isAgg, cfg48, fenC, hx]
    refine ⟨by (unfold SX.Ob; first | trivial | omega | ((try simp only [SX.inK]); (try simp [SX.den, SX.IsU8, SX.AllP, *]); (try omega))), ?_⟩
    intro a3 w3 hr3 _
    refine post_call g [.ag (fenC x), .ptr 0 c3 0] hr3 (wanted_none rfl) rfl hcg (hq w3 x (hok _ _ hw hr3.keeps)) ?_
    rintro e4 w4 ⟨rfl, hb4⟩
    refine ⟨_, rfl, ?_⟩
    have h4 := hr3.ret hb4 16 (.v (.bool (q x))) rfl _ (hr3.all.below hb4) (by simp) rfl
    by_cases hM : q x = true
    · refine seg cfg48_ok mixed PanicFree.body 1000 [true] [] h4 (by first | trivial | exact HpRep.nil | assumption) (by kernel_rfl) fun s_ hs_ => ?_
      simp (maxSteps := 10000000) [SX.vc, SX.stop, SX.contS, SX.contB, SX.sxStep, SX.stepPure, SX.guardIx, SX.evOp, SX.opd, SX.look, SX.putS, SX.gobs, SX.AllP, SX.leave, cfg48, hM]
      refine ⟨by (unfold SX.Ob; first | trivial | omega | ((try simp only [SX.inK]); (try simp [SX.den, SX.IsU8, SX.AllP, *]); (try omega))), ?_⟩
      intro a5 w5 hr5 _
      exact post_retn (end1 hr5 rfl rfl ⟨.inl ⟨k, rfl, hlt, hx ▸ hM, hs⟩, hr5.keeps.toBelow⟩).1
    · have hM' : q x = false := by simpa using hM
      refine seg cfg48_ok mixed PanicFree.body 1000 [false] [] h4 (by first | trivial | exact HpRep.nil | assumption) (by kernel_rfl) fun s_ hs_ => ?_
      simp (maxSteps := 10000000) [SX.vc, SX.stop, SX.contS, SX.contB, SX.sxStep, SX.stepPure, SX.guardIx, SX.evOp, SX.opd, SX.look, SX.putS, SX.gobs, SX.AllP, SX.leave, SX.evBin, SX.evInt, SX.arith, cfg48, hM']
      refine ⟨by (unfold SX.Ob; first | trivial | omega | ((try simp only [SX.inK]); (try simp [SX.den, SX.IsU8, SX.AllP, *]); (try omega))), ?_⟩
      intro a5 w5 hr5 _
      exact post_rnd (L.length - (k + 1)) (by omega) ⟨k + 1, rfl, hlt, fun j hj => (by
        rcases Nat.lt_or_ge j k with h | h
        · exact hs j h
        · obtain rfl : j = k := by omega
          rw [hx]; exact hM'), hr5.re (by simp [envTo, SX.look, den]) trivial rfl rfl⟩
  · obtain rfl : k = L.length := by omega
    refine seg cfg48_ok mixed PanicFree.body 1000 [false] [] hr2 (by first | trivial | exact HpRep.nil | assumption) (by kernel_rfl) fun s_ hs_ => ?_
    simp (maxSteps := 10000000) [SX.vc, SX.stop, SX.contS, SX.contB, SX.contW, SX.sxStep, SX.stepPure, SX.guardIx, SX.evOp, SX.opd, SX.look, SX.putS, SX.gobs, SX.AllP, SX.leave, SX.evBin, SX.evInt, SX.popTo, cfg48]
    refine ⟨by (unfold SX.Ob; first | trivial | omega | ((try simp only [SX.inK]); (try simp [SX.den, SX.IsU8, SX.AllP, *]); (try omega))), ?_⟩
    intro a3 w3 hr3 _
    exact post_retn (end1 hr3 rfl rfl ⟨.inr ⟨rfl, hs⟩, hr3.keeps.toBelow⟩).1
def DelR (P : Nat → Prop) (w : World) (L' : List Fen) (e : Ending) (w' : World) : Prop := ∃ v' B, e = .returned v' ∧ OwF P w' v' L' ∧ (∀ b ∈ B, P b ∧ b < w.heap.size) ∧ KeepsTo w B w'
def keepL (q : Fen → Bool) (L : List Fen) : List Fen := L.filter fun x => !q x
theorem keep_all {q : Fen → Bool} : ∀ {L : List Fen}, (∀ j, j < L.length → q (nth fen0 L j) = false) → keepL q L = L
  | [], _ => rfl
  | s :: r, h => by
    have h0 : q s = false := h 0 (by simp)
    have ih := keep_all (q := q) (L := r) fun j hj => h (j + 1) (by simpa using hj)
    unfold keepL at ih ⊢
    rw [List.filter_cons_of_pos (by simp [h0]), ih]
theorem keep_take {q : Fen → Bool} {L : List Fen} {j : Nat} {x : Fen} (h : j < L.length) (hx : nth fen0 L j = x) : keepL q (L.take (j + 1)) = keepL q (L.take j) ++ (if q x then [] else [x]) := by
  unfold keepL
  rw [take_nth (d := fen0) h, hx, List.filter_append]
  congr 1
  by_cases hq : q x = true
  · simp [hq]
  · simp [hq]
def DlLoop (g : Nat) (w : World) (L : List Fen) (q : Fen → Bool) (c3 b N cap u : Nat) (m : Nat) (a : Act) (w' : World) : Prop :=
  ∃ (j : Nat) (row : Nat → List SV), m = L.length - j ∧ j ≤ L.length ∧ (keepL q (L.take j)).length < j ∧ (∀ r, r < (keepL q (L.take j)).length → row r = fenC (nth fen0 (keepL q (L.take j)) r)) ∧ (∀ r, (keepL q (L.take j)).length ≤ r → r < L.length → row r = fenC (nth fen0 L r)) ∧
    RepX ⟨w, w.heap.size, [b]⟩ ⟨[(6, 0, .v (.int .i64 j)), (5, 0, .v (.int .i64 (keepL q (L.take j)).length)), (0, 0, .sl 0 b 0 0 L.length cap 3), (1, 0, .fn (.func g) [] [.ptr 0 c3 0]), (4, 0, .v (.slice none 0 0))], [(b, true, .arr 0 N row 3 u (0, 0))], 0, 0, 42, [], [], []⟩ a w'
set_option maxRecDepth 100000 in
set_option maxHeartbeats 16000000 in
theorem delf_ok {P : Nat → Prop} (g : Nat) (hcg : Callable Try.prog g) (w : World) (v : Value) (L : List Fen) (q : Fen → Bool) (c3 : Nat) (hO : OwF P w v L) (hn : L.length ≤ 1000000) (ok : World → Prop) (hok : ∀ w1 w2 B, ok w1 → KeepsTo w1 B w2 → (∀ b ∈ B, P b) → ok w2) (hw : ok w)
    (hq : ∀ w' x, ok w' → Calls Try.prog g (denL [.ag (fenC x), .ptr 0 c3 0]).toArray w' (Ret w' (.v (.bool (q x))))) : Calls Try.prog 81 (denL [.v v, .fn (.func g) [] [.ptr 0 c3 0]]).toArray w (DelR P w (keepL q L)) := by
  by_cases hdel : ∀ j, j < L.length → q (nth fen0 L j) = false
  · obtain ⟨ad, cp, rfl⟩ := hO.slice
    refine enter (F := frame0 w) Try.func81 rfl [.v (.slice ad L.length cp), .fn (.func g) [] [.ptr 0 c3 0]] [] (by simp [Try.f81]) trivial (keeps0 w) fun a hr => ?_
    refine seg cfg81_ok mixed PanicFree.body 1000 [] [] hr (by first | trivial | exact HpRep.nil | assumption) (by kernel_rfl) fun s_ hs_ => ?_
    simp (maxSteps := 10000000) [SX.vc, SX.stop, SX.contS, SX.sxStep, SX.stepPure, SX.stepNew, SX.stepStore, SX.guardIx, SX.evOp, SX.opd, SX.look, SX.putS, SX.gobs, SX.AllP, SX.leave, SX.evNew, SX.evStore, SX.env0, cfg81, Try.f81]
    refine ⟨by (unfold SX.Ob; first | trivial | omega | ((try simp only [SX.inK]); (try simp [SX.den, SX.IsU8, SX.AllP, *]); (try omega))), ?_⟩
    intro a1 w1 hr1 _
    have hix : Calls Try.prog 48 (denL [.v (.slice ad L.length cp), .fn (.func g) [] [.ptr 0 c3 0]]).toArray w1 (fun e w' => e = .returned (.int .i64 (-1)) ∧ Below w1.heap.size w1 w') := (ixf_ok g hcg w1 _ L q c3 (hO.rd.below hr1.keeps.toBelow) hn ok (fun _ _ h1 h2 => hok _ _ [] h1 h2 (by simp)) (hok _ _ [] hw hr1.keeps (by simp)) hq).mono fun e w' h => by
      rcases h with ⟨⟨k, _, hk, hqk, _⟩ | ⟨he, _⟩, hb⟩
      · rw [hdel k hk] at hqk; simp at hqk
      · exact ⟨he, hb⟩
    refine post_call 48 [.v (.slice ad L.length cp), .fn (.func g) [] [.ptr 0 c3 0]] hr1 (by first | exact wanted_none rfl | exact wanted_zero (hr1.env.same rfl rfl rfl rfl) rfl (by simp) | exact wanted_zero (hr1.env.same rfl rfl rfl rfl) rfl (by simp [*])) rfl (callable 48 Try.func48) (hix) ?_
    rintro e2 w2 ⟨rfl, hb2⟩
    refine ⟨_, rfl, ?_⟩
    have h2 := hr1.ret hb2 10 (.v (.int .i64 (-1))) rfl _ (hr1.all.below hb2) (by simp) rfl
    refine seg cfg81_ok mixed PanicFree.body 1000 [true] [] h2 (by first | trivial | exact HpRep.nil | assumption) (by kernel_rfl) fun s_ hs_ => ?_
    simp (maxSteps := 10000000) [SX.vc, SX.stop, SX.contS, SX.contB, SX.sxStep, SX.stepPure, SX.guardIx, SX.evOp, SX.opd, SX.look, SX.putS, SX.gobs, SX.AllP, SX.leave, SX.evBin, SX.evInt, cfg81]
    refine ⟨by (unfold SX.Ob; first | trivial | omega | ((try simp only [SX.inK]); (try simp [SX.den, SX.IsU8, SX.AllP, *]); (try omega))), ?_⟩
    intro a3 w3 hr3 _
    exact post_retn (end1 hr3 rfl rfl ⟨_, [], rfl, by rw [keep_all hdel]; exact hO.below hr3.keeps.toBelow, by simp, hr3.keeps⟩).1
  · obtain ⟨i0, hi0, hq0⟩ : ∃ j, j < L.length ∧ q (nth fen0 L j) = true := by
      refine Classical.byContradiction fun h => hdel fun j hj => ?_
      rcases hb : q (nth fen0 L j)
      · rfl
      · exact absurd ⟨j, hj, hb⟩ h
    obtain ⟨b, N, cap, u, row, hPb, rfl, hc0, hc1, hc2, hrep, hrow⟩ := hO.opn hi0
    have hbw := SO.rep_lt hrep
    have hE : HpAll ⟨w, w.heap.size, [b]⟩ w [(b, true, .arr 0 N row 3 u (0, 0))] := ⟨⟨hrep, fun _ => .inr (by simp), by simp⟩, trivial⟩
    refine enter (F := ⟨w, w.heap.size, [b]⟩) Try.func81 rfl [.sl 0 b 0 0 L.length cap 3, .fn (.func g) [] [.ptr 0 c3 0]] _ (by simp [Try.f81]) hE (KeepsTo.refl w _) fun a hr => ?_
    have hM0 : ∀ x ∈ [b], P x := by simpa using hPb
    refine seg cfg81_ok mixed PanicFree.body 1000 [] [] hr (by first | trivial | exact HpRep.nil | assumption) (by kernel_rfl) fun s_ hs_ => ?_
    simp (maxSteps := 10000000) [SX.vc, SX.stop, SX.contS, SX.sxStep, SX.stepPure, SX.stepNew, SX.stepStore, SX.guardIx, SX.evOp, SX.opd, SX.look, SX.putS, SX.gobs, SX.AllP, SX.leave, SX.evNew, SX.evStore, SX.env0, cfg81, Try.f81]
    refine ⟨by (unfold SX.Ob; first | trivial | omega | ((try simp only [SX.inK]); (try simp [SX.den, SX.IsU8, SX.AllP, *]); (try omega))), ?_⟩
    intro a1 w1 hr1 _
    have hO1 : OwF P w1 (.slice (some ⟨b, 0, none⟩) L.length cap) L := .inr ⟨b, N, cap, u, row, hPb, rfl, hc0, hc1, hc2, hr1.all.1.1, hrow⟩
    have hix : Calls Try.prog 48 (denL [.sl 0 b 0 0 L.length cap 3, .fn (.func g) [] [.ptr 0 c3 0]]).toArray w1 (fun e w' => (∃ k : Nat, e = .returned (.int .i64 k) ∧ k < L.length ∧ q (nth fen0 L k) = true ∧ ∀ j, j < k → q (nth fen0 L j) = false) ∧ Below w1.heap.size w1 w') := (ixf_ok g hcg w1 (.slice (some ⟨b, 0, none⟩) L.length cap) L q c3 hO1.rd hn ok (fun _ _ h1 h2 => hok _ _ [] h1 h2 (by simp)) (hok _ _ [b] hw hr1.keeps hM0) hq).mono fun e w' h => by
      rcases h with ⟨⟨k, he, hk, hqk, hno⟩ | ⟨_, hno⟩, hb⟩
      · exact ⟨⟨k, he, hk, hqk, hno⟩, hb⟩
      · rw [hno i0 hi0] at hq0; simp at hq0
    refine post_call 48 [.sl 0 b 0 0 L.length cap 3, .fn (.func g) [] [.ptr 0 c3 0]] hr1 (by first | exact wanted_none rfl | exact wanted_zero (hr1.env.same rfl rfl rfl rfl) rfl (by simp) | exact wanted_zero (hr1.env.same rfl rfl rfl rfl) rfl (by simp [*])) rfl (callable 48 Try.func48) (hix) ?_
    rintro e2 w2 ⟨⟨k, rfl, hk, hqk, hno⟩, hb2⟩
    refine ⟨_, rfl, ?_⟩
    have h2 := hr1.ret hb2 10 (.v (.int .i64 k)) rfl _ (hr1.all.below hb2) (by simp) rfl
    have hk1 : ¬ (k : Int) = -1 := by omega
    refine seg cfg81_ok mixed PanicFree.body 1000 [false] [] h2 (by first | trivial | exact HpRep.nil | assumption) (by kernel_rfl) fun s_ hs_ => ?_
    simp (maxSteps := 10000000) [SX.vc, SX.stop, SX.contS, SX.contB, SX.sxStep, SX.stepPure, SX.guardIx, SX.evOp, SX.opd, SX.look, SX.putS, SX.gobs, SX.AllP, SX.leave, SX.evBin, SX.evInt, SX.arith, cfg81, hk1]
    refine ⟨by (unfold SX.Ob; first | trivial | omega | ((try simp only [SX.inK]); (try simp [SX.den, SX.IsU8, SX.AllP, *]); (try omega))), ?_⟩
    intro a3 w3 hr3 _
    have hkt : keepL q (L.take k) = L.take k := keep_all fun j hj => by
      have hj' : j < k := by simp at hj; omega
      have e1 : nth fen0 (L.take k) j = nth fen0 L j := by
        have := nth_part (d := fen0) (L := L) (i := 0) (n := k) hj'
        simpa using this
      rw [e1]; exact hno j hj'
    have hkt1 : keepL q (L.take (k + 1)) = L.take k := by rw [keep_take hk rfl, hqk, hkt]; simp
    have hkl : (keepL q (L.take (k + 1))).length = k := by rw [hkt1]; simp; omega
    refine post_loop (DlLoop g w L q c3 b N cap u) (L.length - (k + 1)) ⟨k + 1, row, rfl, hk, by omega, fun r hr' => (by
      rw [hkt1, hrow r (by omega)]
      congr 1
      have := nth_part (d := fen0) (L := L) (i := 0) (n := k) (show r < k by omega)
      simpa using this.symm), fun r _ hr' => hrow r hr', hr3.re (by simp [envTo, SX.look, den, hkl]) hr3.all rfl rfl⟩ ?_
    rintro m a4 w4 ⟨j, row4, rfl, hj, hij, hr1', hr2', hr4⟩
    obtain ⟨i, hi⟩ : ∃ i, (keepL q (L.take j)).length = i := ⟨_, rfl⟩
    rw [hi] at hij hr1' hr2' hr4
    by_cases hlt : j < L.length
    · obtain ⟨x, hx⟩ : ∃ x, nth fen0 L j = x := ⟨_, rfl⟩
      have hrj : row4 j = [.v (.int .i64 x.z), .v (.int .i64 x.h), .v (.int .i64 x.e)] := by rw [hr2' j (by omega) hlt, hx]; rfl
      have hjN : j < N := by omega
      have hiN : i < N := by omega
      have hkt2 := keep_take (q := q) hlt hx
      obtain ⟨y, hy⟩ : ∃ y, nth fen0 L i = y := ⟨_, rfl⟩
      have hri : row4 i = [.v (.int .i64 y.z), .v (.int .i64 y.h), .v (.int .i64 y.e)] := by rw [hr2' i (Nat.le_refl _) (by omega), hy]; rfl
      refine seg cfg81_ok mixed PanicFree.body 1000 [true] [] hr4 (by first | trivial | exact HpRep.nil | assumption) (by kernel_rfl) fun sX hsX => ?_
      simp (maxSteps := 10000000) [SX.vc, SX.stop, SX.contS, SX.contB, SX.sxStep, SX.stepPure, SX.stepNew, SX.stepStore, SX.guardIx, SX.evOp, SX.opd, SX.opds, SX.look, SX.putS, SX.gobs, SX.AllP, SX.leave, SX.lookT, SX.evBuiltin, SX.evBin, SX.evInt, SX.evLoad, SX.shapeUp, SX.evIndexAddr, SX.cellsV, SX.evNew, SX.evStore, SX.spliceL, SX.SV.cells, SX.TD.isAgg, SX.NotAgg, Go.Value.cells, cfg81, hrj]
      refine ⟨by (unfold SX.Ob; first | trivial | omega | ((try simp only [SX.inK]); (try simp [SX.den, SX.IsU8, SX.AllP, *]); (try omega))), ?_⟩
      intro a5 w5 hr5 _
      refine post_call g [.ag (fenC x), .ptr 0 c3 0] hr5 (wanted_none rfl) rfl hcg (hq w5 x (hok _ _ [b] hw hr5.keeps hM0)) ?_
      rintro e6 w6 ⟨rfl, hb6⟩
      refine ⟨_, rfl, ?_⟩
      have h6 := hr5.ret hb6 28 (.v (.bool (q x))) rfl _ (hr5.all.below hb6) (by simp) rfl
      by_cases hqx : q x = true
      · rw [hqx, if_pos rfl, List.append_nil] at hkt2
        refine seg cfg81_ok mixed PanicFree.body 1000 [false] [] h6 (by first | trivial | exact HpRep.nil | assumption) (by kernel_rfl) fun s_ hs_ => ?_
        simp (maxSteps := 10000000) [SX.vc, SX.stop, SX.contS, SX.contB, SX.sxStep, SX.stepPure, SX.guardIx, SX.evOp, SX.opd, SX.look, SX.putS, SX.gobs, SX.AllP, SX.leave, SX.evBin, SX.evInt, SX.arith, SX.evUn, cfg81, hqx]
        refine ⟨by (unfold SX.Ob; first | trivial | omega | ((try simp only [SX.inK]); (try simp [SX.den, SX.IsU8, SX.AllP, *]); (try omega))), ?_⟩
        intro a7 w7 hr7 _
        exact post_rnd (L.length - (j + 1)) (by omega) ⟨j + 1, row4, rfl, hlt, by rw [hkt2, hi]; omega, by rw [hkt2, hi]; exact hr1', by rw [hkt2, hi]; exact hr2', hr7.re (by simp [envTo, SX.look, den, hkt2, hi]) (hr7.all.take 1) rfl rfl⟩
      · have hqx' : q x = false := by simpa using hqx
        rw [hqx', if_neg (by simp)] at hkt2
        have hil : (keepL q (L.take (j + 1))).length = i + 1 := by rw [hkt2, List.length_append, hi]; rfl
        refine seg cfg81_ok mixed PanicFree.body 1000 [true] [] h6 (by first | trivial | exact HpRep.nil | assumption) (by kernel_rfl) fun s_ hs_ => ?_
        simp (maxSteps := 10000000) [SX.vc, SX.stop, SX.contS, SX.contB, SX.sxStep, SX.stepPure, SX.stepNew, SX.stepStore, SX.guardIx, SX.evOp, SX.opd, SX.look, SX.putS, SX.gobs, SX.AllP, SX.leave, SX.lookT, SX.evBin, SX.evInt, SX.arith, SX.evLoad, SX.shapeUp, SX.evIndexAddr, SX.evNew, SX.evStore, SX.spliceL, SX.SV.cells, SX.evUn, SX.TD.isAgg, SX.NotAgg, cfg81, hqx', hri]
        refine ⟨by (unfold SX.Ob; first | trivial | omega | ((try simp only [SX.inK]); (try simp [SX.den, SX.IsU8, SX.AllP, *]); (try omega))), ?_⟩
        intro a7 w7 hr7 _
        exact post_rnd (L.length - (j + 1)) (by omega) ⟨j + 1, _, rfl, hlt, by rw [hil]; omega, fun r hr' => (by
          rw [hil] at hr'
          unfold setRow
          by_cases hri' : r = i
          · subst hri'
            rw [if_pos rfl, hkt2]
            have := nth_append_right (d := fen0) (L := keepL q (L.take j)) (M := [x]) (j := 0)
            rw [hi] at this
            rw [show r + 0 = r from rfl] at this
            rw [this]
            simp [nth, fenC]
          · rw [if_neg hri', hr1' r (by omega), hkt2, nth_append_left (by omega)]), fun r hr' hrl => (by
          rw [hil] at hr'
          unfold setRow
          rw [if_neg (by omega), hr2' r (by omega) hrl]), hr7.re (by simp [envTo, SX.look, den, hil]) (hr7.all.take 1) rfl rfl⟩
    · obtain rfl : j = L.length := by omega
      rw [List.take_length] at hi hr1'
      have hci : ¬ cap = i := by omega
      refine seg cfg81_ok mixed PanicFree.body 1000 [false] [] hr4 (by first | trivial | exact HpRep.nil | assumption) (by kernel_rfl) fun s_ hs_ => ?_
      simp (maxSteps := 10000000) [SX.vc, SX.stop, SX.contS, SX.contB, SX.contW, SX.sxStep, SX.stepPure, SX.stepNew, SX.stepStore, SX.guardIx, SX.evOp, SX.opd, SX.opds, SX.optOpd, SX.look, SX.putS, SX.gobs, SX.AllP, SX.leave, SX.lookT, SX.evBuiltin, SX.evBin, SX.evInt, SX.evNew, SX.evStore, SX.evSlice, SX.bnd, SX.popTo, cfg81, hci]
      refine ⟨by (unfold SX.Ob; first | trivial | omega | ((try simp only [SX.inK]); (try simp [SX.den, SX.IsU8, SX.AllP, *]); (try omega))), ?_⟩
      intro a5 w5 hr5 _
      refine post_clear (C := cfg81) cfg81_ok hr5 rfl rfl rfl rfl rfl rfl rfl rfl rfl (by decide) rfl (by omega) fun a6 w6 hr6 => ?_
      refine seg cfg81_ok mixed PanicFree.body 1000 [] [] hr6 (by first | trivial | exact HpRep.nil | assumption) (by kernel_rfl) fun s_ hs_ => ?_
      simp (maxSteps := 10000000) [SX.vc, SX.stop, SX.contS, SX.sxStep, SX.stepPure, SX.guardIx, SX.evOp, SX.opd, SX.optOpd, SX.look, SX.putS, SX.gobs, SX.AllP, SX.leave, SX.lookT, SX.evSlice, SX.bnd, Go.Value.cells, cfg81]
      refine ⟨by (unfold SX.Ob; first | trivial | omega | ((try simp only [SX.inK]); (try simp [SX.den, SX.IsU8, SX.AllP, *]); (try omega))), ?_⟩
      intro a7 w7 hr7 _
      refine post_retn (end1 hr7 rfl rfl ⟨_, [b], rfl, ?_, by simpa using ⟨hPb, hbw⟩, hr7.keeps⟩).1
      refine .inr ⟨b, N, cap, u, _, hPb, by rw [hi]; simp [den], hc0, by omega, hc2, hr7.all.1.1, fun r hr' => ?_⟩
      rw [hi] at hr'
      rw [if_neg (by omega), hr1' r hr']
set_option maxRecDepth 100000 in
set_option maxHeartbeats 16000000 in
theorem delete_ok {Q : Nat → Prop} (w : World) (v : Value) (L : List Fen) (hO : OwF Q w v L) (i : Nat) (hi : i < L.length) (hn : L.length ≤ 1000000) :
    Calls Try.prog 50 (denL [.v v, .v (.int .i64 i), .v (.int .i64 ((i : Int) + 1))]).toArray w (DelR Q w (L.take i ++ L.drop (i + 1))) := by
  obtain ⟨b, N, cap, u, row, hQ, rfl, hc0, hc1, hc2, hrep, hrow⟩ := hO.opn hi
  have hbw := SO.rep_lt hrep
  have hE : HpAll ⟨w, w.heap.size, [b]⟩ w [(b, true, .arr 0 N row 3 u (0, 0))] := ⟨⟨hrep, fun _ => .inr (by simp), by simp⟩, trivial⟩
  refine enter (F := ⟨w, w.heap.size, [b]⟩) Try.func50 rfl [.sl 0 b 0 0 L.length cap 3, .v (.int .i64 i), .v (.int .i64 ((i : Int) + 1))] _ (by simp [Try.f50]) hE (KeepsTo.refl w _) fun a hr => ?_
  have hne : ¬ (i : Int) = (i : Int) + 1 := by omega
  have hMB : ∀ z ∈ [b], Q z ∧ z < w.heap.size := by simpa using ⟨hQ, hbw⟩
  obtain ⟨m, hm⟩ : ∃ m, L.length = i + 1 + m := ⟨L.length - (i + 1), by omega⟩
  have hfin : ∀ (w' : World) (row' : Nat → List SV), (SO.arr 0 N row' 3 u (0, 0)).rep w' b → (∀ q, q < i + m → row' q = copyRow row row i (i + 1) m q) → OwF Q w' (.slice (some ⟨b, 0, none⟩) (i + m) cap) (L.take i ++ L.drop (i + 1)) := fun w' row' h1 h2 => by
    have hl : (L.take i ++ L.drop (i + 1)).length = i + m := by simp; omega
    refine .inr ⟨b, N, cap, u, row', hQ, by rw [hl], hc0, by rw [hl]; omega, hc2, h1, fun q hq => ?_⟩
    rw [hl] at hq
    rw [h2 q hq]
    unfold copyRow
    by_cases hqi : q < i
    · rw [if_pos hqi, hrow q (by omega), nth_append_left (by simp; omega)]
      congr 1
      have := nth_part (d := fen0) (L := L) (i := 0) (n := i) hqi
      simpa using this.symm
    · rw [if_neg hqi, if_pos hq, hrow _ (by omega)]
      obtain ⟨r, rfl⟩ : ∃ r, q = i + r := ⟨q - i, by omega⟩
      have e1 : (L.take i).length = i := by simp; omega
      have e2 := nth_append_right (d := fen0) (L := L.take i) (M := L.drop (i + 1)) (j := r)
      rw [e1] at e2
      rw [e2]
      simp [nth, Nat.add_comm, Nat.add_left_comm]
  refine seg cfg50_ok mixed PanicFree.body 1000 [] [] hr (by first | trivial | exact HpRep.nil | assumption) (by kernel_rfl) fun s_ hs_ => ?_
  simp (maxSteps := 10000000) [SX.vc, SX.stop, SX.contS, SX.sxStep, SX.stepPure, SX.stepNew, SX.stepStore, SX.guardIx, SX.evOp, SX.opd, SX.opds, SX.look, SX.putS, SX.gobs, SX.AllP, SX.leave, SX.lookT, SX.evBuiltin, SX.evNew, SX.evStore, SX.env0, cfg50, Try.f50]
  refine ⟨by (unfold SX.Ob; first | trivial | omega | ((try simp only [SX.inK]); (try simp [SX.den, SX.IsU8, SX.AllP, *]); (try omega))), ?_⟩
  intro a1 w1 hr1 _
  refine post_slice3 (C := cfg50) cfg50_ok hr1 rfl rfl (by simp) rfl rfl rfl rfl rfl rfl rfl (by omega) (by omega) (by omega) (by omega) fun a2 v2 hr2 => ?_
  by_cases hci : cap = i + 1
  · have hm0 : m = 0 := by omega
    have hci2 : ¬ cap = i := by omega
    have hm1 : ¬ 1 = m := by omega
    refine seg cfg50_ok mixed PanicFree.body 1000 [false] [] hr2 (by first | trivial | exact HpRep.nil | assumption) (by kernel_rfl) fun s_ hs_ => ?_
    simp (maxSteps := 10000000) [SX.vc, SX.stop, SX.contS, SX.contB, SX.contR, SX.contD, SX.sxStep, SX.stepPure, SX.stepNew, SX.stepStore, SX.guardIx, SX.evOp, SX.opd, SX.opds, SX.optOpd, SX.look, SX.putS, SX.gobs, SX.AllP, SX.leave, SX.lookT, SX.lookN, SX.evBuiltin, SX.evBin, SX.evInt, SX.evNew, SX.evStore, SX.evSlice, SX.bnd, SX.tails, SX.thaw, SX.frzStep, cfg50, hne, hci]
    refine ⟨by (unfold SX.Ob; first | trivial | omega | ((try simp only [SX.inK]); (try simp [SX.den, SX.IsU8, SX.AllP, *]); (try omega))), ?_⟩
    intro a3 w3 hr3 _
    have hm2 : L.length - (i + 1) = m := by omega
    rw [hm2] at hr3
    have hfl : ∀ j, j < m → ∀ x ∈ row (0 + j), NotAgg (den x) := fun j hj => by
      omega
    refine post_appSelfD (C := cfg50) cfg50_ok hr3 rfl (frz_thaw [(b, true, SO.arr 0 N row 3 u (0, 0))]) rfl rfl (by simp) rfl rfl rfl rfl rfl rfl rfl rfl rfl (by decide) rfl (by omega) (by omega) (by omega) hfl rfl fun a4 w4 hr4 => ?_
    have hcm : ¬ cap = i + m := by omega
    have htn : ((i : Int) + (m : Int)).toNat = i + m := by omega
    refine seg cfg50_ok mixed PanicFree.body 1000 [] [] hr4 (by first | trivial | exact HpRep.nil | assumption) (by kernel_rfl) fun s_ hs_ => ?_
    simp (maxSteps := 10000000) [SX.vc, SX.stop, SX.contS, SX.contD, SX.sxStep, SX.stepPure, SX.stepNew, SX.stepStore, SX.guardIx, SX.evOp, SX.opd, SX.opds, SX.optOpd, SX.look, SX.putS, SX.gobs, SX.AllP, SX.leave, SX.lookT, SX.evBuiltin, SX.evNew, SX.evStore, SX.evSlice, SX.bnd, cfg50, htn, hm1]
    refine ⟨by (unfold SX.Ob; first | trivial | omega | ((try simp only [SX.inK]); (try simp [SX.den, SX.IsU8, SX.AllP, *]); (try omega))), ?_⟩
    intro a5 w5 hr5 _
    refine post_clear (C := cfg50) cfg50_ok hr5 rfl rfl rfl rfl rfl rfl rfl rfl rfl (by decide) rfl (by omega) fun a6 w6 hr6 => ?_
    refine seg cfg50_ok mixed PanicFree.body 1000 [] [] hr6 (by first | trivial | exact HpRep.nil | assumption) (by kernel_rfl) fun s_ hs_ => ?_
    simp (maxSteps := 10000000) [SX.vc, SX.stop, SX.contS, SX.sxStep, SX.stepPure, SX.guardIx, SX.evOp, SX.opd, SX.look, SX.putS, SX.gobs, SX.AllP, SX.leave, Go.Value.cells, cfg50]
    refine ⟨by (unfold SX.Ob; first | trivial | omega | ((try simp only [SX.inK]); (try simp [SX.den, SX.IsU8, SX.AllP, *]); (try omega))), ?_⟩
    intro a7 w7 hr7 _
    refine post_retn (end1 hr7 rfl rfl ⟨_, [b], rfl, ?_, hMB, hr7.keeps⟩).1
    have := hfin w7 _ hr7.all.1.1 (fun q hq => by
      rw [if_neg (by omega)]
      unfold copyRow
      rw [if_pos (by omega), if_pos (by omega)])
    simpa [den, hci] using this
  · refine seg cfg50_ok mixed PanicFree.body 1000 [false] [] hr2 (by first | trivial | exact HpRep.nil | assumption) (by kernel_rfl) fun s_ hs_ => ?_
    simp (maxSteps := 10000000) [SX.vc, SX.stop, SX.contS, SX.contB, SX.contR, SX.contD, SX.sxStep, SX.stepPure, SX.stepNew, SX.stepStore, SX.guardIx, SX.evOp, SX.opd, SX.opds, SX.optOpd, SX.look, SX.putS, SX.gobs, SX.AllP, SX.leave, SX.lookT, SX.lookN, SX.evBuiltin, SX.evBin, SX.evInt, SX.evNew, SX.evStore, SX.evSlice, SX.bnd, SX.tails, SX.thaw, SX.frzStep, cfg50, hne, hci]
    refine ⟨by (unfold SX.Ob; first | trivial | omega | ((try simp only [SX.inK]); (try simp [SX.den, SX.IsU8, SX.AllP, *]); (try omega))), ?_⟩
    intro a3 w3 hr3 _
    have hm2 : L.length - (i + 1) = m := by omega
    rw [hm2] at hr3
    have hfl : ∀ j, j < m → ∀ x ∈ row (i + 1 + j), NotAgg (den x) := fun j hj => by
      rw [hrow _ (by omega)]
      exact flatF [nth fen0 L (i + 1 + j)] _ (by simp)
    refine post_appSelfD (C := cfg50) cfg50_ok hr3 rfl (frz_thaw [(b, true, SO.arr 0 N row 3 u (0, 0))]) rfl rfl (by simp) rfl rfl rfl rfl rfl rfl rfl rfl rfl (by decide) rfl (by omega) (by omega) (by omega) hfl rfl fun a4 w4 hr4 => ?_
    have hcm : ¬ cap = i + m := by omega
    have htn : ((i : Int) + (m : Int)).toNat = i + m := by omega
    refine seg cfg50_ok mixed PanicFree.body 1000 [] [] hr4 (by first | trivial | exact HpRep.nil | assumption) (by kernel_rfl) fun s_ hs_ => ?_
    simp (maxSteps := 10000000) [SX.vc, SX.stop, SX.contS, SX.contD, SX.sxStep, SX.stepPure, SX.stepNew, SX.stepStore, SX.guardIx, SX.evOp, SX.opd, SX.opds, SX.optOpd, SX.look, SX.putS, SX.gobs, SX.AllP, SX.leave, SX.lookT, SX.evBuiltin, SX.evNew, SX.evStore, SX.evSlice, SX.bnd, cfg50, hcm, htn]
    refine ⟨by (unfold SX.Ob; first | trivial | omega | ((try simp only [SX.inK]); (try simp [SX.den, SX.IsU8, SX.AllP, *]); (try omega))), ?_⟩
    intro a5 w5 hr5 _
    refine post_clear (C := cfg50) cfg50_ok hr5 rfl rfl rfl rfl rfl rfl rfl rfl rfl (by decide) rfl (by omega) fun a6 w6 hr6 => ?_
    refine seg cfg50_ok mixed PanicFree.body 1000 [] [] hr6 (by first | trivial | exact HpRep.nil | assumption) (by kernel_rfl) fun s_ hs_ => ?_
    simp (maxSteps := 10000000) [SX.vc, SX.stop, SX.contS, SX.sxStep, SX.stepPure, SX.guardIx, SX.evOp, SX.opd, SX.look, SX.putS, SX.gobs, SX.AllP, SX.leave, Go.Value.cells, cfg50]
    refine ⟨by (unfold SX.Ob; first | trivial | omega | ((try simp only [SX.inK]); (try simp [SX.den, SX.IsU8, SX.AllP, *]); (try omega))), ?_⟩
    intro a7 w7 hr7 _
    refine post_retn (end1 hr7 rfl rfl ⟨_, [b], rfl, ?_, hMB, hr7.keeps⟩).1
    have := hfin w7 _ hr7.all.1.1 (fun q hq => by
      rw [if_neg (by omega)])
    simpa [den, hci] using this
end Go.Proofs.C8
namespace Go.Proofs.C8
open Go Go.Proofs Go.SX Go.RowKit Go.Proofs.L6
theorem sideLse : eqSide Try.prog 38 = true := by kernel_rfl
theorem ok38 : ∀ t, (t == 38) = true → eqSide Try.prog t = true := by
  intro t h
  have e : t = 38 := by simpa using h
  rw [e]
  exact sideLse
theorem beqLse (x y : Lse) : (x.k == y.k && (x.h == y.h && (x.e == y.e && (x.u == y.u)))) = decide (x = y) := by
  rw [Bool.eq_iff_iff]
  simp only [Bool.and_eq_true, beq_iff_eq, decide_eq_true_eq]
  cases x; cases y
  simp
theorem eqLse {tt : List (Nat × TI)} {ok : Nat → Bool} (x y : Lse) (h1 : lookT tt 38 = some ⟨.struct [(0, 3), (1, 3), (2, 3), (3, 3)], 4, 32, .agg #[.int .i64 0, .int .i64 0, .int .i64 0, .int .i64 0]⟩ := by rfl) (h3 : lookT tt 3 = some ⟨.int .i64, 1, 8, .int .i64 0⟩ := by rfl) (hok : ok 38 = true := by rfl) :
    evEqA tt ok 40 38 (.ag (lseC x)) (.ag (lseC y)) = some (decide (x = y)) := by
  rw [← beqLse]
  simp [evEqA, evEqF, eqPlain, h1, h3, hok, shapeUp, TD.isAgg, lseC]
theorem nthLse {L M : List Lse} (hl : L.length = M.length) (h : ∀ j, j < L.length → nth lse0 L j = nth lse0 M j) : L = M := by
  apply List.ext_getElem hl
  intro j h1 h2
  have := h j h1
  rwa [nth_lt h1, nth_lt h2] at this
def cfg32n : Cfg := { cfg32 with dt := [] }
theorem cfg32n_ok : TTok Try.prog cfg32n.tt := cfg32_ok
def EqLoopLse (w : World) (v v' : Value) (L M : List Lse) (m : Nat) (a : Act) (w' : World) : Prop :=
  ∃ k : Nat, m = L.length - k ∧ k ≤ L.length ∧ (∀ j, j < k → nth lse0 L j = nth lse0 M j) ∧ RepX (frame0 w) ⟨[(13, 0, .v (.int .i64 k)), (12, 0, .v (.int .i64 L.length)), (0, 0, .v v), (1, 0, .v v')], [], 0, 0, 26, [], [], []⟩ a w'
set_option maxRecDepth 100000 in
set_option maxHeartbeats 8000000 in
theorem sameLse {P P' : Nat → Prop} (w : World) (v v' : Value) (L M : List Lse) (hL : RdL P w v L) (hM : RdL P' w v' M) (hn : L.length ≤ 1000000) : Calls Try.prog 32 (denL [.v v, .v v']).toArray w (Ret w (.v (.bool (decide (L = M))))) := by
  obtain ⟨ad, cp, rfl⟩ := hL.slice
  obtain ⟨ad', cp', rfl⟩ := hM.slice
  refine enter (F := frame0 w) Try.func32 rfl [.v (.slice ad L.length cp), .v (.slice ad' M.length cp')] [] (by simp [Try.f32]) trivial (keeps0 w) fun a hr => ?_
  by_cases hl : L.length = M.length
  rotate_left
  · refine seg cfg32_ok mixed PanicFree.body 1000 [true] [] hr (by first | trivial | exact HpRep.nil | assumption) (by kernel_rfl) fun s_ hs_ => ?_
    simp (maxSteps := 10000000) [SX.vc, SX.stop, SX.contS, SX.contB, SX.sxStep, SX.stepPure, SX.guardIx, SX.evOp, SX.opd, SX.opds, SX.look, SX.putS, SX.gobs, SX.AllP, SX.leave, SX.lookT, SX.evBuiltin, SX.evBin, SX.evInt, SX.env0, cfg32, Try.f32]
    refine ⟨by (unfold SX.Ob; first | trivial | omega | ((try simp only [SX.inK]); (try simp [SX.den, SX.IsU8, SX.AllP, *]); (try omega))), ?_⟩
    intro a1 w1 hr1 _
    refine post_retn (end1 hr1 rfl rfl ⟨ret_dec ?_, hr1.keeps.toBelow⟩).1
    simp only [Bool.false_eq_true, false_iff]
    rintro rfl
    exact hl rfl
  have hl' : ¬ ((L.length : Int) ≠ (M.length : Int)) := by omega
  have hl2 : ((L.length : Int) != (M.length : Int)) = false := by simp [hl]
  refine seg cfg32_ok mixed PanicFree.body 1000 [false] [] hr (by first | trivial | exact HpRep.nil | assumption) (by kernel_rfl) fun s_ hs_ => ?_
  simp (maxSteps := 10000000) [SX.vc, SX.stop, SX.contS, SX.contB, SX.sxStep, SX.stepPure, SX.guardIx, SX.evOp, SX.opd, SX.opds, SX.look, SX.putS, SX.gobs, SX.AllP, SX.leave, SX.lookT, SX.evBuiltin, SX.evBin, SX.evInt, SX.env0, cfg32, Try.f32, hl2]
  refine ⟨by (unfold SX.Ob; first | trivial | omega | ((try simp only [SX.inK]); (try simp [SX.den, SX.IsU8, SX.AllP, *]); (try omega))), ?_⟩
  intro a1 w1 hr1 _
  refine post_loop (EqLoopLse w (.slice ad L.length cp) (.slice ad' M.length cp') L M) L.length ⟨0, rfl, by omega, by omega, hr1.re (by simp [envTo, SX.look]) trivial rfl rfl⟩ ?_
  rintro m a2 w2 ⟨k, rfl, hk, hs, hr2⟩
  by_cases hlt : k < L.length
  · obtain ⟨b, o0, cap, u, fz, hP, hv, hrep⟩ := hL.opn hlt
    obtain ⟨b', o0', cap', u', fz', hP', hv', hrep'⟩ := hM.opn (show k < M.length by omega)
    cases hv
    cases hv'
    have h3 := (hr2.top 0 (.sl 0 b o0 0 L.length cp 4) rfl (by simp [den])).top 1 (.sl 1 b' o0' 0 M.length cp' 4) rfl (by simp [den])
    refine seg cfg32n_ok mixed PanicFree.body 1000 [true] [] h3 (by first | trivial | exact HpRep.nil | assumption) (by kernel_rfl) fun s_ hs_ => ?_
    simp (maxSteps := 10000000) [SX.vc, SX.stop, SX.contS, SX.contB, SX.contR, SX.sxStep, SX.stepPure, SX.guardIx, SX.evOp, SX.opd, SX.look, SX.putS, SX.gobs, SX.AllP, SX.leave, SX.lookN, SX.evBin, SX.evInt, cfg32n, cfg32]
    refine ⟨by (unfold SX.Ob; first | trivial | omega | ((try simp only [SX.inK]); (try simp [SX.den, SX.IsU8, SX.AllP, *]); (try omega))), ?_⟩
    intro a4 w4 hr4 _
    have hb4 := hr4.keeps.toBelow
    have r1 := SO.rep_same hrep (hb4.block _ (SO.rep_lt hrep))
    have r2 := SO.rep_same hrep' (hb4.block _ (SO.rep_lt hrep'))
    obtain ⟨x, hx⟩ : ∃ x, nth lse0 L k = x := ⟨_, rfl⟩
    obtain ⟨y, hy⟩ : ∃ y, nth lse0 M k = y := ⟨_, rfl⟩
    refine post_enterD mixed PanicFree.body (ord := [(0, 0), (1, 0), (2, 0), (3, 0), (4, 0), (5, 0), (6, 0), (7, 0), (8, 0)]) (by kernel_rfl) hr4 [(b, false, .arr o0 L.length (fun j => lseC (nth lse0 L j)) 4 u fz), (b', false, .arr o0' M.length (fun j => lseC (nth lse0 M j)) 4 u' fz')] (by
      intro i c m o hi
      rcases i with _ | _ | i
      · cases hi; exact r1
      · cases hi; exact r2
      · simp at hi) fun h5 ht5 => ?_
    have hkM : k < M.length := by omega
    refine seg cfg32_ok mixed PanicFree.body 1000 [] [] h5 (by first | trivial | exact HpRep.nil | assumption) (by kernel_rfl) fun s_ hs_ => ?_
    simp (maxSteps := 10000000) [SX.vc, SX.stop, SX.contS, SX.contD, SX.stepPure, SX.guardIx, SX.evOp, SX.opd, SX.look, SX.putS, SX.gobs, SX.AllP, SX.lookT, SX.evBin, SX.evEq, SX.evLoad, SX.shapeUp, SX.evIndexAddr, SX.TD.isAgg, cfg32, lseC, hx, hy]
    refine ⟨by (unfold SX.Ob; first | trivial | omega | ((try simp only [SX.inK]); (try simp [SX.den, SX.IsU8, SX.AllP, *]); (try omega))), ?_⟩
    intro a6 w6 hr6 ht6
    refine post_eqQ (C := cfg32) cfg32_ok (ok := fun t => t == 38) ok38 hr6 ht6 rfl rfl rfl rfl rfl (by kernel_rfl) (b := decide (x = y)) (eqLse x y) (by first | exact wanted_none rfl | exact wanted_zero (hr6.env.same rfl rfl rfl rfl) rfl (by simp)) rfl (by simp) rfl fun a_ hr7 => ?_
    simp only [SX.eqR] at hr7
    have ht7 := ht6
    by_cases hxy : x = y
    · refine seg cfg32_ok mixed PanicFree.body 1000 [false] [] hr7 (by first | trivial | exact HpRep.nil | assumption) (by kernel_rfl) fun s_ hs_ => ?_
      simp (maxSteps := 10000000) [SX.vc, SX.stop, SX.contS, SX.contB, SX.sxStep, SX.stepPure, SX.guardIx, SX.evOp, SX.opd, SX.look, SX.putS, SX.gobs, SX.AllP, SX.leave, SX.evBin, SX.evInt, SX.arith, cfg32, hxy]
      refine ⟨by (unfold SX.Ob; first | trivial | omega | ((try simp only [SX.inK]); (try simp [SX.den, SX.IsU8, SX.AllP, *]); (try omega))), ?_⟩
      intro a8 w8 hr8 _
      exact post_rnd (L.length - (k + 1)) (by omega) ⟨k + 1, rfl, hlt, fun j hj => (by
        rcases Nat.lt_or_ge j k with h | h
        · exact hs j h
        · obtain rfl : j = k := by omega
          rw [hx, hy, hxy]), hr8.re (by simp [envTo, SX.look, den]) trivial rfl rfl⟩
    · refine seg cfg32_ok mixed PanicFree.body 1000 [true] [] hr7 (by first | trivial | exact HpRep.nil | assumption) (by kernel_rfl) fun s_ hs_ => ?_
      simp (maxSteps := 10000000) [SX.vc, SX.stop, SX.contS, SX.contB, SX.sxStep, SX.stepPure, SX.guardIx, SX.evOp, SX.opd, SX.look, SX.putS, SX.gobs, SX.AllP, SX.leave, SX.evBin, SX.evInt, SX.arith, cfg32, hxy]
      refine ⟨by (unfold SX.Ob; first | trivial | omega | ((try simp only [SX.inK]); (try simp [SX.den, SX.IsU8, SX.AllP, *]); (try omega))), ?_⟩
      intro a8 w8 hr8 _
      refine post_retn (end1 hr8 rfl rfl ⟨ret_dec ?_, hr8.keeps.toBelow⟩).1
      simp only [Bool.false_eq_true, false_iff]
      rintro rfl
      exact hxy (hx.symm.trans hy)
  · obtain rfl : k = L.length := by omega
    refine seg cfg32_ok mixed PanicFree.body 1000 [false] [] hr2 (by first | trivial | exact HpRep.nil | assumption) (by kernel_rfl) fun s_ hs_ => ?_
    simp (maxSteps := 10000000) [SX.vc, SX.stop, SX.contS, SX.contB, SX.contW, SX.sxStep, SX.stepPure, SX.guardIx, SX.evOp, SX.opd, SX.look, SX.putS, SX.gobs, SX.AllP, SX.leave, SX.evBin, SX.evInt, SX.popTo, cfg32]
    refine ⟨by (unfold SX.Ob; first | trivial | omega | ((try simp only [SX.inK]); (try simp [SX.den, SX.IsU8, SX.AllP, *]); (try omega))), ?_⟩
    intro a3 w3 hr3 _
    refine post_retn (end1 hr3 rfl rfl ⟨ret_dec ?_, hr3.keeps.toBelow⟩).1
    simp only [true_iff]
    exact nthLse hl hs
theorem sideSpn : eqSide Try.prog 50 = true := by kernel_rfl
theorem ok50 : ∀ t, (t == 50) = true → eqSide Try.prog t = true := by
  intro t h
  have e : t = 50 := by simpa using h
  rw [e]
  exact sideSpn
theorem beqSpn (x y : S7.Spn) : (x.fr == y.fr && (x.to == y.to && (x.ow == y.ow && (x.ep == y.ep)))) = decide (x = y) := by
  rw [Bool.eq_iff_iff]
  simp only [Bool.and_eq_true, beq_iff_eq, decide_eq_true_eq]
  cases x; cases y
  simp
theorem eqSpn {tt : List (Nat × TI)} {ok : Nat → Bool} (x y : S7.Spn) (h1 : lookT tt 50 = some ⟨.struct [(0, 3), (1, 3), (2, 3), (3, 3)], 4, 32, .agg #[.int .i64 0, .int .i64 0, .int .i64 0, .int .i64 0]⟩ := by rfl) (h3 : lookT tt 3 = some ⟨.int .i64, 1, 8, .int .i64 0⟩ := by rfl) (hok : ok 50 = true := by rfl) :
    evEqA tt ok 40 50 (.ag (S7.spnC x)) (.ag (S7.spnC y)) = some (decide (x = y)) := by
  rw [← beqSpn]
  simp [evEqA, evEqF, eqPlain, h1, h3, hok, shapeUp, TD.isAgg, S7.spnC]
theorem nthSpn {L M : List S7.Spn} (hl : L.length = M.length) (h : ∀ j, j < L.length → nth S7.spn0 L j = nth S7.spn0 M j) : L = M := by
  apply List.ext_getElem hl
  intro j h1 h2
  have := h j h1
  rwa [nth_lt h1, nth_lt h2] at this
def cfg33n : Cfg := { cfg33 with dt := [] }
theorem cfg33n_ok : TTok Try.prog cfg33n.tt := cfg33_ok
def EqLoopSpn (w : World) (v v' : Value) (L M : List S7.Spn) (m : Nat) (a : Act) (w' : World) : Prop :=
  ∃ k : Nat, m = L.length - k ∧ k ≤ L.length ∧ (∀ j, j < k → nth S7.spn0 L j = nth S7.spn0 M j) ∧ RepX (frame0 w) ⟨[(13, 0, .v (.int .i64 k)), (12, 0, .v (.int .i64 L.length)), (0, 0, .v v), (1, 0, .v v')], [], 0, 0, 26, [], [], []⟩ a w'
set_option maxRecDepth 100000 in
set_option maxHeartbeats 8000000 in
theorem sameSpn {P P' : Nat → Prop} (w : World) (v v' : Value) (L M : List S7.Spn) (hL : S7.RdP P w v L) (hM : S7.RdP P' w v' M) (hn : L.length ≤ 1000000) : Calls Try.prog 33 (denL [.v v, .v v']).toArray w (Ret w (.v (.bool (decide (L = M))))) := by
  obtain ⟨ad, cp, rfl⟩ := hL.slice
  obtain ⟨ad', cp', rfl⟩ := hM.slice
  refine enter (F := frame0 w) Try.func33 rfl [.v (.slice ad L.length cp), .v (.slice ad' M.length cp')] [] (by simp [Try.f33]) trivial (keeps0 w) fun a hr => ?_
  by_cases hl : L.length = M.length
  rotate_left
  · refine seg cfg33_ok mixed PanicFree.body 1000 [true] [] hr (by first | trivial | exact HpRep.nil | assumption) (by kernel_rfl) fun s_ hs_ => ?_
    simp (maxSteps := 10000000) [SX.vc, SX.stop, SX.contS, SX.contB, SX.sxStep, SX.stepPure, SX.guardIx, SX.evOp, SX.opd, SX.opds, SX.look, SX.putS, SX.gobs, SX.AllP, SX.leave, SX.lookT, SX.evBuiltin, SX.evBin, SX.evInt, SX.env0, cfg33, Try.f33]
    refine ⟨by (unfold SX.Ob; first | trivial | omega | ((try simp only [SX.inK]); (try simp [SX.den, SX.IsU8, SX.AllP, *]); (try omega))), ?_⟩
    intro a1 w1 hr1 _
    refine post_retn (end1 hr1 rfl rfl ⟨ret_dec ?_, hr1.keeps.toBelow⟩).1
    simp only [Bool.false_eq_true, false_iff]
    rintro rfl
    exact hl rfl
  have hl' : ¬ ((L.length : Int) ≠ (M.length : Int)) := by omega
  have hl2 : ((L.length : Int) != (M.length : Int)) = false := by simp [hl]
  refine seg cfg33_ok mixed PanicFree.body 1000 [false] [] hr (by first | trivial | exact HpRep.nil | assumption) (by kernel_rfl) fun s_ hs_ => ?_
  simp (maxSteps := 10000000) [SX.vc, SX.stop, SX.contS, SX.contB, SX.sxStep, SX.stepPure, SX.guardIx, SX.evOp, SX.opd, SX.opds, SX.look, SX.putS, SX.gobs, SX.AllP, SX.leave, SX.lookT, SX.evBuiltin, SX.evBin, SX.evInt, SX.env0, cfg33, Try.f33, hl2]
  refine ⟨by (unfold SX.Ob; first | trivial | omega | ((try simp only [SX.inK]); (try simp [SX.den, SX.IsU8, SX.AllP, *]); (try omega))), ?_⟩
  intro a1 w1 hr1 _
  refine post_loop (EqLoopSpn w (.slice ad L.length cp) (.slice ad' M.length cp') L M) L.length ⟨0, rfl, by omega, by omega, hr1.re (by simp [envTo, SX.look]) trivial rfl rfl⟩ ?_
  rintro m a2 w2 ⟨k, rfl, hk, hs, hr2⟩
  by_cases hlt : k < L.length
  · obtain ⟨b, o0, cap, u, fz, hP, hv, hrep⟩ := hL.opn hlt
    obtain ⟨b', o0', cap', u', fz', hP', hv', hrep'⟩ := hM.opn (show k < M.length by omega)
    cases hv
    cases hv'
    have h3 := (hr2.top 0 (.sl 0 b o0 0 L.length cp 4) rfl (by simp [den])).top 1 (.sl 1 b' o0' 0 M.length cp' 4) rfl (by simp [den])
    refine seg cfg33n_ok mixed PanicFree.body 1000 [true] [] h3 (by first | trivial | exact HpRep.nil | assumption) (by kernel_rfl) fun s_ hs_ => ?_
    simp (maxSteps := 10000000) [SX.vc, SX.stop, SX.contS, SX.contB, SX.contR, SX.sxStep, SX.stepPure, SX.guardIx, SX.evOp, SX.opd, SX.look, SX.putS, SX.gobs, SX.AllP, SX.leave, SX.lookN, SX.evBin, SX.evInt, cfg33n, cfg33]
    refine ⟨by (unfold SX.Ob; first | trivial | omega | ((try simp only [SX.inK]); (try simp [SX.den, SX.IsU8, SX.AllP, *]); (try omega))), ?_⟩
    intro a4 w4 hr4 _
    have hb4 := hr4.keeps.toBelow
    have r1 := SO.rep_same hrep (hb4.block _ (SO.rep_lt hrep))
    have r2 := SO.rep_same hrep' (hb4.block _ (SO.rep_lt hrep'))
    obtain ⟨x, hx⟩ : ∃ x, nth S7.spn0 L k = x := ⟨_, rfl⟩
    obtain ⟨y, hy⟩ : ∃ y, nth S7.spn0 M k = y := ⟨_, rfl⟩
    refine post_enterD mixed PanicFree.body (ord := [(0, 0), (1, 0), (2, 0), (3, 0), (4, 0), (5, 0), (6, 0), (7, 0), (8, 0)]) (by kernel_rfl) hr4 [(b, false, .arr o0 L.length (fun j => S7.spnC (nth S7.spn0 L j)) 4 u fz), (b', false, .arr o0' M.length (fun j => S7.spnC (nth S7.spn0 M j)) 4 u' fz')] (by
      intro i c m o hi
      rcases i with _ | _ | i
      · cases hi; exact r1
      · cases hi; exact r2
      · simp at hi) fun h5 ht5 => ?_
    have hkM : k < M.length := by omega
    refine seg cfg33_ok mixed PanicFree.body 1000 [] [] h5 (by first | trivial | exact HpRep.nil | assumption) (by kernel_rfl) fun s_ hs_ => ?_
    simp (maxSteps := 10000000) [SX.vc, SX.stop, SX.contS, SX.contD, SX.stepPure, SX.guardIx, SX.evOp, SX.opd, SX.look, SX.putS, SX.gobs, SX.AllP, SX.lookT, SX.evBin, SX.evEq, SX.evLoad, SX.shapeUp, SX.evIndexAddr, SX.TD.isAgg, cfg33, S7.spnC, hx, hy]
    refine ⟨by (unfold SX.Ob; first | trivial | omega | ((try simp only [SX.inK]); (try simp [SX.den, SX.IsU8, SX.AllP, *]); (try omega))), ?_⟩
    intro a6 w6 hr6 ht6
    refine post_eqQ (C := cfg33) cfg33_ok (ok := fun t => t == 50) ok50 hr6 ht6 rfl rfl rfl rfl rfl (by kernel_rfl) (b := decide (x = y)) (eqSpn x y) (by first | exact wanted_none rfl | exact wanted_zero (hr6.env.same rfl rfl rfl rfl) rfl (by simp)) rfl (by simp) rfl fun a_ hr7 => ?_
    simp only [SX.eqR] at hr7
    have ht7 := ht6
    by_cases hxy : x = y
    · refine seg cfg33_ok mixed PanicFree.body 1000 [false] [] hr7 (by first | trivial | exact HpRep.nil | assumption) (by kernel_rfl) fun s_ hs_ => ?_
      simp (maxSteps := 10000000) [SX.vc, SX.stop, SX.contS, SX.contB, SX.sxStep, SX.stepPure, SX.guardIx, SX.evOp, SX.opd, SX.look, SX.putS, SX.gobs, SX.AllP, SX.leave, SX.evBin, SX.evInt, SX.arith, cfg33, hxy]
      refine ⟨by (unfold SX.Ob; first | trivial | omega | ((try simp only [SX.inK]); (try simp [SX.den, SX.IsU8, SX.AllP, *]); (try omega))), ?_⟩
      intro a8 w8 hr8 _
      exact post_rnd (L.length - (k + 1)) (by omega) ⟨k + 1, rfl, hlt, fun j hj => (by
        rcases Nat.lt_or_ge j k with h | h
        · exact hs j h
        · obtain rfl : j = k := by omega
          rw [hx, hy, hxy]), hr8.re (by simp [envTo, SX.look, den]) trivial rfl rfl⟩
    · refine seg cfg33_ok mixed PanicFree.body 1000 [true] [] hr7 (by first | trivial | exact HpRep.nil | assumption) (by kernel_rfl) fun s_ hs_ => ?_
      simp (maxSteps := 10000000) [SX.vc, SX.stop, SX.contS, SX.contB, SX.sxStep, SX.stepPure, SX.guardIx, SX.evOp, SX.opd, SX.look, SX.putS, SX.gobs, SX.AllP, SX.leave, SX.evBin, SX.evInt, SX.arith, cfg33, hxy]
      refine ⟨by (unfold SX.Ob; first | trivial | omega | ((try simp only [SX.inK]); (try simp [SX.den, SX.IsU8, SX.AllP, *]); (try omega))), ?_⟩
      intro a8 w8 hr8 _
      refine post_retn (end1 hr8 rfl rfl ⟨ret_dec ?_, hr8.keeps.toBelow⟩).1
      simp only [Bool.false_eq_true, false_iff]
      rintro rfl
      exact hxy (hx.symm.trans hy)
  · obtain rfl : k = L.length := by omega
    refine seg cfg33_ok mixed PanicFree.body 1000 [false] [] hr2 (by first | trivial | exact HpRep.nil | assumption) (by kernel_rfl) fun s_ hs_ => ?_
    simp (maxSteps := 10000000) [SX.vc, SX.stop, SX.contS, SX.contB, SX.contW, SX.sxStep, SX.stepPure, SX.guardIx, SX.evOp, SX.opd, SX.look, SX.putS, SX.gobs, SX.AllP, SX.leave, SX.evBin, SX.evInt, SX.popTo, cfg33]
    refine ⟨by (unfold SX.Ob; first | trivial | omega | ((try simp only [SX.inK]); (try simp [SX.den, SX.IsU8, SX.AllP, *]); (try omega))), ?_⟩
    intro a3 w3 hr3 _
    refine post_retn (end1 hr3 rfl rfl ⟨ret_dec ?_, hr3.keeps.toBelow⟩).1
    simp only [true_iff]
    exact nthSpn hl hs
theorem sideFen : eqSide Try.prog 52 = true := by kernel_rfl
theorem ok52 : ∀ t, (t == 52) = true → eqSide Try.prog t = true := by
  intro t h
  have e : t = 52 := by simpa using h
  rw [e]
  exact sideFen
theorem beqFen (x y : Fen) : (x.z == y.z && (x.h == y.h && (x.e == y.e))) = decide (x = y) := by
  rw [Bool.eq_iff_iff]
  simp only [Bool.and_eq_true, beq_iff_eq, decide_eq_true_eq]
  cases x; cases y
  simp
theorem eqFen {tt : List (Nat × TI)} {ok : Nat → Bool} (x y : Fen) (h1 : lookT tt 52 = some ⟨.struct [(0, 3), (1, 3), (2, 3)], 3, 24, .agg #[.int .i64 0, .int .i64 0, .int .i64 0]⟩ := by rfl) (h3 : lookT tt 3 = some ⟨.int .i64, 1, 8, .int .i64 0⟩ := by rfl) (hok : ok 52 = true := by rfl) :
    evEqA tt ok 40 52 (.ag (fenC x)) (.ag (fenC y)) = some (decide (x = y)) := by
  rw [← beqFen]
  simp [evEqA, evEqF, eqPlain, h1, h3, hok, shapeUp, TD.isAgg, fenC]
theorem nthFen {L M : List Fen} (hl : L.length = M.length) (h : ∀ j, j < L.length → nth fen0 L j = nth fen0 M j) : L = M := by
  apply List.ext_getElem hl
  intro j h1 h2
  have := h j h1
  rwa [nth_lt h1, nth_lt h2] at this
def cfg34n : Cfg := { cfg34 with dt := [] }
theorem cfg34n_ok : TTok Try.prog cfg34n.tt := cfg34_ok
def EqLoopFen (w : World) (v v' : Value) (L M : List Fen) (m : Nat) (a : Act) (w' : World) : Prop :=
  ∃ k : Nat, m = L.length - k ∧ k ≤ L.length ∧ (∀ j, j < k → nth fen0 L j = nth fen0 M j) ∧ RepX (frame0 w) ⟨[(13, 0, .v (.int .i64 k)), (12, 0, .v (.int .i64 L.length)), (0, 0, .v v), (1, 0, .v v')], [], 0, 0, 26, [], [], []⟩ a w'
set_option maxRecDepth 100000 in
set_option maxHeartbeats 8000000 in
theorem sameFen {P P' : Nat → Prop} (w : World) (v v' : Value) (L M : List Fen) (hL : RdF P w v L) (hM : RdF P' w v' M) (hn : L.length ≤ 1000000) : Calls Try.prog 34 (denL [.v v, .v v']).toArray w (Ret w (.v (.bool (decide (L = M))))) := by
  obtain ⟨ad, cp, rfl⟩ := hL.slice
  obtain ⟨ad', cp', rfl⟩ := hM.slice
  refine enter (F := frame0 w) Try.func34 rfl [.v (.slice ad L.length cp), .v (.slice ad' M.length cp')] [] (by simp [Try.f34]) trivial (keeps0 w) fun a hr => ?_
  by_cases hl : L.length = M.length
  rotate_left
  · refine seg cfg34_ok mixed PanicFree.body 1000 [true] [] hr (by first | trivial | exact HpRep.nil | assumption) (by kernel_rfl) fun s_ hs_ => ?_
    simp (maxSteps := 10000000) [SX.vc, SX.stop, SX.contS, SX.contB, SX.sxStep, SX.stepPure, SX.guardIx, SX.evOp, SX.opd, SX.opds, SX.look, SX.putS, SX.gobs, SX.AllP, SX.leave, SX.lookT, SX.evBuiltin, SX.evBin, SX.evInt, SX.env0, cfg34, Try.f34]
    refine ⟨by (unfold SX.Ob; first | trivial | omega | ((try simp only [SX.inK]); (try simp [SX.den, SX.IsU8, SX.AllP, *]); (try omega))), ?_⟩
    intro a1 w1 hr1 _
    refine post_retn (end1 hr1 rfl rfl ⟨ret_dec ?_, hr1.keeps.toBelow⟩).1
    simp only [Bool.false_eq_true, false_iff]
    rintro rfl
    exact hl rfl
  have hl' : ¬ ((L.length : Int) ≠ (M.length : Int)) := by omega
  have hl2 : ((L.length : Int) != (M.length : Int)) = false := by simp [hl]
  refine seg cfg34_ok mixed PanicFree.body 1000 [false] [] hr (by first | trivial | exact HpRep.nil | assumption) (by kernel_rfl) fun s_ hs_ => ?_
  simp (maxSteps := 10000000) [SX.vc, SX.stop, SX.contS, SX.contB, SX.sxStep, SX.stepPure, SX.guardIx, SX.evOp, SX.opd, SX.opds, SX.look, SX.putS, SX.gobs, SX.AllP, SX.leave, SX.lookT, SX.evBuiltin, SX.evBin, SX.evInt, SX.env0, cfg34, Try.f34, hl2]
  refine ⟨by (unfold SX.Ob; first | trivial | omega | ((try simp only [SX.inK]); (try simp [SX.den, SX.IsU8, SX.AllP, *]); (try omega))), ?_⟩
  intro a1 w1 hr1 _
  refine post_loop (EqLoopFen w (.slice ad L.length cp) (.slice ad' M.length cp') L M) L.length ⟨0, rfl, by omega, by omega, hr1.re (by simp [envTo, SX.look]) trivial rfl rfl⟩ ?_
  rintro m a2 w2 ⟨k, rfl, hk, hs, hr2⟩
  by_cases hlt : k < L.length
  · obtain ⟨b, o0, cap, u, fz, hP, hv, hrep⟩ := hL.opn hlt
    obtain ⟨b', o0', cap', u', fz', hP', hv', hrep'⟩ := hM.opn (show k < M.length by omega)
    cases hv
    cases hv'
    have h3 := (hr2.top 0 (.sl 0 b o0 0 L.length cp 3) rfl (by simp [den])).top 1 (.sl 1 b' o0' 0 M.length cp' 3) rfl (by simp [den])
    refine seg cfg34n_ok mixed PanicFree.body 1000 [true] [] h3 (by first | trivial | exact HpRep.nil | assumption) (by kernel_rfl) fun s_ hs_ => ?_
    simp (maxSteps := 10000000) [SX.vc, SX.stop, SX.contS, SX.contB, SX.contR, SX.sxStep, SX.stepPure, SX.guardIx, SX.evOp, SX.opd, SX.look, SX.putS, SX.gobs, SX.AllP, SX.leave, SX.lookN, SX.evBin, SX.evInt, cfg34n, cfg34]
    refine ⟨by (unfold SX.Ob; first | trivial | omega | ((try simp only [SX.inK]); (try simp [SX.den, SX.IsU8, SX.AllP, *]); (try omega))), ?_⟩
    intro a4 w4 hr4 _
    have hb4 := hr4.keeps.toBelow
    have r1 := SO.rep_same hrep (hb4.block _ (SO.rep_lt hrep))
    have r2 := SO.rep_same hrep' (hb4.block _ (SO.rep_lt hrep'))
    obtain ⟨x, hx⟩ : ∃ x, nth fen0 L k = x := ⟨_, rfl⟩
    obtain ⟨y, hy⟩ : ∃ y, nth fen0 M k = y := ⟨_, rfl⟩
    refine post_enterD mixed PanicFree.body (ord := [(0, 0), (1, 0), (2, 0), (3, 0), (4, 0), (5, 0), (6, 0), (7, 0), (8, 0)]) (by kernel_rfl) hr4 [(b, false, .arr o0 L.length (fun j => fenC (nth fen0 L j)) 3 u fz), (b', false, .arr o0' M.length (fun j => fenC (nth fen0 M j)) 3 u' fz')] (by
      intro i c m o hi
      rcases i with _ | _ | i
      · cases hi; exact r1
      · cases hi; exact r2
      · simp at hi) fun h5 ht5 => ?_
    have hkM : k < M.length := by omega
    refine seg cfg34_ok mixed PanicFree.body 1000 [] [] h5 (by first | trivial | exact HpRep.nil | assumption) (by kernel_rfl) fun s_ hs_ => ?_
    simp (maxSteps := 10000000) [SX.vc, SX.stop, SX.contS, SX.contD, SX.stepPure, SX.guardIx, SX.evOp, SX.opd, SX.look, SX.putS, SX.gobs, SX.AllP, SX.lookT, SX.evBin, SX.evEq, SX.evLoad, SX.shapeUp, SX.evIndexAddr, SX.TD.isAgg, cfg34, fenC, hx, hy]
    refine ⟨by (unfold SX.Ob; first | trivial | omega | ((try simp only [SX.inK]); (try simp [SX.den, SX.IsU8, SX.AllP, *]); (try omega))), ?_⟩
    intro a6 w6 hr6 ht6
    refine post_eqQ (C := cfg34) cfg34_ok (ok := fun t => t == 52) ok52 hr6 ht6 rfl rfl rfl rfl rfl (by kernel_rfl) (b := decide (x = y)) (eqFen x y) (by first | exact wanted_none rfl | exact wanted_zero (hr6.env.same rfl rfl rfl rfl) rfl (by simp)) rfl (by simp) rfl fun a_ hr7 => ?_
    simp only [SX.eqR] at hr7
    have ht7 := ht6
    by_cases hxy : x = y
    · refine seg cfg34_ok mixed PanicFree.body 1000 [false] [] hr7 (by first | trivial | exact HpRep.nil | assumption) (by kernel_rfl) fun s_ hs_ => ?_
      simp (maxSteps := 10000000) [SX.vc, SX.stop, SX.contS, SX.contB, SX.sxStep, SX.stepPure, SX.guardIx, SX.evOp, SX.opd, SX.look, SX.putS, SX.gobs, SX.AllP, SX.leave, SX.evBin, SX.evInt, SX.arith, cfg34, hxy]
      refine ⟨by (unfold SX.Ob; first | trivial | omega | ((try simp only [SX.inK]); (try simp [SX.den, SX.IsU8, SX.AllP, *]); (try omega))), ?_⟩
      intro a8 w8 hr8 _
      exact post_rnd (L.length - (k + 1)) (by omega) ⟨k + 1, rfl, hlt, fun j hj => (by
        rcases Nat.lt_or_ge j k with h | h
        · exact hs j h
        · obtain rfl : j = k := by omega
          rw [hx, hy, hxy]), hr8.re (by simp [envTo, SX.look, den]) trivial rfl rfl⟩
    · refine seg cfg34_ok mixed PanicFree.body 1000 [true] [] hr7 (by first | trivial | exact HpRep.nil | assumption) (by kernel_rfl) fun s_ hs_ => ?_
      simp (maxSteps := 10000000) [SX.vc, SX.stop, SX.contS, SX.contB, SX.sxStep, SX.stepPure, SX.guardIx, SX.evOp, SX.opd, SX.look, SX.putS, SX.gobs, SX.AllP, SX.leave, SX.evBin, SX.evInt, SX.arith, cfg34, hxy]
      refine ⟨by (unfold SX.Ob; first | trivial | omega | ((try simp only [SX.inK]); (try simp [SX.den, SX.IsU8, SX.AllP, *]); (try omega))), ?_⟩
      intro a8 w8 hr8 _
      refine post_retn (end1 hr8 rfl rfl ⟨ret_dec ?_, hr8.keeps.toBelow⟩).1
      simp only [Bool.false_eq_true, false_iff]
      rintro rfl
      exact hxy (hx.symm.trans hy)
  · obtain rfl : k = L.length := by omega
    refine seg cfg34_ok mixed PanicFree.body 1000 [false] [] hr2 (by first | trivial | exact HpRep.nil | assumption) (by kernel_rfl) fun s_ hs_ => ?_
    simp (maxSteps := 10000000) [SX.vc, SX.stop, SX.contS, SX.contB, SX.contW, SX.sxStep, SX.stepPure, SX.guardIx, SX.evOp, SX.opd, SX.look, SX.putS, SX.gobs, SX.AllP, SX.leave, SX.evBin, SX.evInt, SX.popTo, cfg34]
    refine ⟨by (unfold SX.Ob; first | trivial | omega | ((try simp only [SX.inK]); (try simp [SX.den, SX.IsU8, SX.AllP, *]); (try omega))), ?_⟩
    intro a3 w3 hr3 _
    refine post_retn (end1 hr3 rfl rfl ⟨ret_dec ?_, hr3.keeps.toBelow⟩).1
    simp only [true_iff]
    exact nthFen hl hs
end Go.Proofs.C8
