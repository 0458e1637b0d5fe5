/- sync.Once: the table is filled once. -/
import Derived.Test.YtcepnjkcdkkdpaaRO
import Derived.Test.YtcepnjkcdkkdpaaRF
namespace Go.Proofs
set_option linter.unusedVariables false
set_option linter.unusedSimpArgs false
open Go Go.SX Go.RowKit Go.Crc

theorem rep_cell {w : World} {b t o : Nat} {l : List SV} {x : SV} (h : (SO.cells l t).rep w b) (hl : l[o]? = some x) : w.cell? ⟨b, o, none⟩ = some (den x) ∧ w.frozen? ⟨b, o, none⟩ = false := by
  have hb' : w.heap[b]? = some (.cells (denL l).toArray t (0, 0)) := h
  exact ⟨by simp [World.cell?, hb', denL_get?, hl], by simp [World.frozen?, hb']⟩

theorem rep_set {w : World} {b t o : Nat} {l : List SV} {x : SV} (h : (SO.cells l t).rep w b) {v : Value} (hv : v = den x) : (SO.cells (l.set o x) t).rep (w.setCell ⟨b, o, none⟩ v) b ∧ KeepsTo w [b] (w.setCell ⟨b, o, none⟩ v) := by
  subst hv
  have hb' : w.heap[b]? = some (.cells (denL l).toArray t (0, 0)) := h
  have e : (denL l).toArray.setIfInBounds o (den x) = (denL (l.set o x)).toArray := by
    apply Array.ext'
    simp [denL_map, List.map_set]
  rw [setCell_putBlk hb', e]
  exact ⟨putBlk_same (lt_of_heap hb'), putBlk_keeps⟩

theorem keepsDrew (w : World) : KeepsTo w [] w.drew := ⟨Nat.le_refl _, rfl, rfl, rfl, Nat.le_refl _, fun _ _ _ => rfl⟩

theorem keeps2 {w w1 w2 : World} {M : List Nat} (h1 : KeepsTo w M w1) (h2 : KeepsTo w1 M w2) : KeepsTo w M w2 := Keeps.to h1 h2 fun x hx => .inr hx

theorem KeepsTo.weak {w w' : World} {M M' : List Nat} (h : KeepsTo w M w') (hs : ∀ x ∈ M, x ∈ M') : KeepsTo w M' w' := KeepsTo.of h hs

theorem tab_set0 (d s : Int) (T : Nat → Int) (u x : Int) : (tabC d s T u).set 0 (.v (.int .u32 x)) = tabC x s T u := rfl
theorem tab_set1 (d s : Int) (T : Nat → Int) (u x : Int) : (tabC d s T u).set 1 (.v (.int .i32 x)) = tabC d x T u := rfl

theorem bload_ok (a : Addr) (x : Int) (w : World) (h : w.cell? a = some (.int .u32 x)) : Calls Try.prog 25 #[.pointer (some a)] w fun e w' => e = .returned (.bool (x != 0)) ∧ w' = w := by
  have hl := run_call_load (P := Try.prog) Try.func28 (by kernel_rfl) (by kernel_rfl) (by kernel_rfl) .u32 (by kernel_rfl) h
  go_enter Try.func25, Try.ntmps25
  go_wp2
  go_ret
  exact ⟨rfl, rfl⟩

def DidPost (w : World) (b : Nat) (u : Int) (e : Ending) (w' : World) : Prop := e = .returned (.tuple #[]) ∧ KeepsTo w [b] w' ∧ (SO.cells (tabC 1 0 tabI u) 55).rep w' b

set_option maxRecDepth 100000 in
set_option maxHeartbeats 4000000 in
theorem slow_ok (w : World) (b : Nat) (T : Nat → Int) (u : Int) (hb : (SO.cells (tabC 0 0 T u) 55).rep w b) :
    Calls Try.prog 26 #[.pointer (some ⟨b, 0, none⟩), .func (.func 20) #[.pointer (some ⟨b, 0, none⟩)] #[]] w (DidPost w b u) := by
  have c1 := rep_cell hb (o := 1) (x := .v (.int .i32 0)) rfl
  have s1 := rep_set hb (o := 1) (x := .v (.int .i32 1)) (v := .int .i32 1) rfl
  rw [tab_set1] at s1
  have c0 := rep_cell s1.1 (o := 0) (x := .v (.int .u32 0)) rfl
  have hl := run_call_load (P := Try.prog) Try.func28 (by kernel_rfl) (by kernel_rfl) (by kernel_rfl) .u32 (by kernel_rfl) c0.1
  have hnot : ∀ (x : Bool) (w : World), (Op.unary .not (.bool x)).run Try.prog w = .ok (.bool (!x)) w := fun _ _ => rfl
  go_enter_defers Try.func26, Try.ntmps26
  go_wp2_with (first | (go_at_call 29; refine (lock_free ⟨b, 1, none⟩ _ c1.1 c1.2).mono ?_; rintro e w' ⟨rfl, rfl⟩) | (go_at_call 25; refine (bload_ok _ 0 _ c0.1).mono ?_; rintro e w' ⟨rfl, rfl⟩) | (go_at_call 20; refine (fill_ok _ b 0 1 T u s1.1).mono ?_; rintro e w2 ⟨rfl, hk2, hb2⟩))
  have c2 := rep_cell hb2 (o := 0) (x := .v (.int .u32 0)) rfl
  refine leaves_cons (f := 31) (args := #[.pointer (some ⟨b, 0, none⟩), .bool true]) (by simp) (by simp [go_sem]) ?_
  refine (store_deferred ⟨b, 0, none⟩ (.int .u32 0) .returning _ c2.1 c2.2).mono ?_
  rintro e u' w3 ⟨rfl, rfl, rfl⟩
  have hb3 : (SO.cells (tabC 0 1 tabI u) 55).rep w2.drew b := hb2
  have s3 := rep_set hb3 (o := 0) (x := .v (.int .u32 1)) (v := .int .u32 1) rfl
  rw [tab_set0] at s3
  have c3 := rep_cell s3.1 (o := 1) (x := .v (.int .i32 1)) rfl
  refine leaves_cons (f := 30) (args := #[.pointer (some ⟨b, 1, none⟩)]) (by simp [settle]) (by simp [go_sem]) ?_
  refine (unlock_deferred ⟨b, 1, none⟩ _ _ c3.1 c3.2).mono ?_
  rintro e u' w4 ⟨rfl, rfl, rfl⟩
  have s4 := rep_set s3.1 (o := 1) (x := .v (.int .i32 0)) (v := .int .i32 0) rfl
  rw [tab_set1] at s4
  have hR : DidPost w b u (.returned (.tuple #[])) ((w2.drew.setCell ⟨b, 0, none⟩ (.int .u32 1)).setCell ⟨b, 1, none⟩ (.int .i32 0)) :=
    ⟨rfl, keeps2 (keeps2 (keeps2 s1.2 hk2) (KeepsTo.weak (keepsDrew w2) (by simp))) (keeps2 s3.2 s4.2), s4.1⟩
  simpa [Leaves, settle, results, Try.results26] using hR

set_option maxRecDepth 100000 in
set_option maxHeartbeats 4000000 in
theorem do_ok (w : World) (b : Nat) (d : Int) (hd : d = 0 ∨ d = 1) (T : Nat → Int) (u : Int) (hT : d = 1 → T = tabI) (hb : (SO.cells (tabC d 0 T u) 55).rep w b) :
    Calls Try.prog 19 #[.pointer (some ⟨b, 0, none⟩), .func (.func 20) #[.pointer (some ⟨b, 0, none⟩)] #[]] w (DidPost w b u) := by
  have hnot : ∀ (x : Bool) (w : World), (Op.unary .not (.bool x)).run Try.prog w = .ok (.bool (!x)) w := fun _ _ => rfl
  have c0 := rep_cell hb (o := 0) (x := .v (.int .u32 d)) rfl
  rcases hd with rfl | rfl
  · go_enter Try.func19, Try.ntmps19
    go_wp2_with (first | (go_at_call 25; refine (bload_ok _ 0 _ c0.1).mono ?_; rintro e w' ⟨rfl, rfl⟩) | (go_at_call 26; refine (slow_ok _ b T u hb).mono ?_; rintro e w2 ⟨rfl, hk2, hb2⟩))
    go_end0
    exact ⟨rfl, hk2, hb2⟩
  · obtain rfl := hT rfl
    go_enter Try.func19, Try.ntmps19
    go_wp2_with (first | (go_at_call 25; refine (bload_ok _ 1 _ c0.1).mono ?_; rintro e w' ⟨rfl, rfl⟩))
    go_end0
    exact ⟨rfl, KeepsTo.refl _ _, hb⟩
end Go.Proofs
