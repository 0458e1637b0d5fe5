/- Scripts: arguments that came in, with the bounds of their numbers. -/
import Derived.Test.YtnikfpbhmfdkcaaDoorSI
import Derived.Test.YtnikfpbhmfdkcaaDoorSxF
import Derived.Test.YtnikfpbhmfdkcaaDoorTie
import Derived.Test.YtnikfpbhmfdkcaaDoorCards
import Derived.WalkKit
import Derived.ProofKit
import Derived.OpenShut
import Derived.ChangeOld
import Derived.Below
import Derived.SizedLaws
import Derived.LaidMore
import Derived.Lay
import Derived.SevenTiedAt
import Derived.Stop.Joined
namespace Go.Proofs.YtnikfpbhmfdkcaaDoor
set_option linter.unusedVariables false
set_option linter.unusedSimpArgs false
set_option linter.unusedSectionVars false
open Go Go.ChangeShapes Go.WideShapes Go.ChangeAt Go.RowKit Go.SX Go.Proofs Go.Script

set_option maxRecDepth 100000
theorem own : ownKnob Tryd.prog.godebug = none := by kernel_rfl
theorem laidOut : laidOutB Tryd.prog = true := by kernel_rfl

theorem wf_i64 {x : Int} (h : (Lit.int .i64 x).wf = true) : inK x := by
  simp [Lit.wf, IntKind.min, IntKind.max, IntKind.bits, IntKind.signed] at h
  exact h
theorem wf_u8 {x : Int} (h : (Lit.int .u8 x).wf = true) : 0 ≤ x ∧ x < 256 := by
  simp [Lit.wf, IntKind.min, IntKind.max, IntKind.bits, IntKind.signed] at h
  omega

def actR (x : Ac) : List SV := [.v (.int .i64 x.d), .v (.int .i64 x.host), .v (.int .i64 x.zone), .v (.int .i64 x.lba), .v (.int .i64 x.n), .v (.int .u8 x.by_), .v (.int .i64 x.keep)]
theorem act_row {H : Type} {enc : TypeId × Value → H} {w : World} {held : Bool} (fuel : Nat) (cs : List Value) (x : DataW H × List MemPlace) (h : DataW.trod enc Tryd.prog w 0 (fun _ => true) held fuel 37 cs = some x) :
    ∃ e : Ac, cs = denL (actR e) ∧ 0 ≤ e.by_ ∧ e.by_ < 256 := by
  obtain ⟨xs, n, _, _, hlen, hxl, hf⟩ := DataW.trod_struct Tryd.underlying37 h
  have hC : Tryd.prog.cellsOf 37 = 7 := by kernel_rfl
  have c3 : Tryd.prog.cellsOf 3 = 1 := by kernel_rfl
  have c5 : Tryd.prog.cellsOf 5 = 1 := by kernel_rfl
  rw [hC] at hlen
  match cs, hlen with
  | [v0, v1, v2, v3, v4, v5, v6], _ =>
    match xs, hxl with
    | [y0, y1, y2, y3, y4, y5, y6], _ =>
      have h0 := hf 0 _ rfl
      have h1 := hf 1 _ rfl
      have h2 := hf 2 _ rfl
      have h3 := hf 3 _ rfl
      have h4 := hf 4 _ rfl
      have h5 := hf 5 _ rfl
      have h6 := hf 6 _ rfl
      simp [c3, c5] at h0 h1 h2 h3 h4 h5 h6
      obtain ⟨n0, e0, _, _⟩ := DataW.trod_int Tryd.underlying3 h0
      obtain ⟨n1, e1, _, _⟩ := DataW.trod_int Tryd.underlying3 h1
      obtain ⟨n2, e2, _, _⟩ := DataW.trod_int Tryd.underlying3 h2
      obtain ⟨n3, e3, _, _⟩ := DataW.trod_int Tryd.underlying3 h3
      obtain ⟨n4, e4, _, _⟩ := DataW.trod_int Tryd.underlying3 h4
      obtain ⟨n5, e5, _, w5⟩ := DataW.trod_int Tryd.underlying5 h5
      obtain ⟨n6, e6, _, _⟩ := DataW.trod_int Tryd.underlying3 h6
      simp at e0 e1 e2 e3 e4 e5 e6
      subst e0 e1 e2 e3 e4 e5 e6
      exact ⟨⟨n0, n1, n2, n3, n4, n5, n6⟩, rfl, wf_u8 w5⟩
theorem stp_row {H : Type} {enc : TypeId × Value → H} {w : World} {held : Bool} (fuel : Nat) (cs : List Value) (x : DataW H × List MemPlace) (h : DataW.trod enc Tryd.prog w 0 (fun _ => true) held fuel 39 cs = some x) :
    ∃ l, cs = denL l ∧ l.length = 9 ∧ ∃ e : Stp, l = stepRow e ∧ (0 ≤ e.a.by_ ∧ e.a.by_ < 256) := by
  obtain ⟨xs, n, _, _, hlen, hxl, hf⟩ := DataW.trod_struct Tryd.underlying39 h
  have hC : Tryd.prog.cellsOf 39 = 9 := by kernel_rfl
  have c3 : Tryd.prog.cellsOf 3 = 1 := by kernel_rfl
  have c37 : Tryd.prog.cellsOf 37 = 7 := by kernel_rfl
  rw [hC] at hlen
  match cs, hlen with
  | [v0, v1, v2, v3, v4, v5, v6, v7, v8], _ =>
    match xs, hxl with
    | [y0, y1, y2], _ =>
      have h0 := hf 0 _ rfl
      have h1 := hf 1 _ rfl
      have h2 := hf 2 _ rfl
      simp [c3, c37] at h0 h1 h2
      obtain ⟨n0, e0, _, _⟩ := DataW.trod_int Tryd.underlying3 h0
      obtain ⟨n1, e1, _, _⟩ := DataW.trod_int Tryd.underlying3 h1
      obtain ⟨e, e2, hb⟩ := act_row _ _ _ h2
      simp at e0 e1
      subst e0 e1
      refine ⟨stepRow ⟨n0, n1, e⟩, ?_, rfl, _, rfl, hb⟩
      rw [e2]
      rfl

/-- A slice that came in, as a list. -/
theorem lists_inQ {α : Type} {enc' : α → List SV} {sz : Nat} {d0 : α} {H : Type} {enc : TypeId × Value → H} {w : World} {held : Bool} {t e : TypeId} {a : Option Addr} {n cap : Nat} {d : DataW H} {p : List MemPlace} (ht : Tryd.prog.underlying t = some (.slice e)) (hC : Tryd.prog.cellsOf e = sz) (hsz : 0 < sz)
    (Q : α → Prop)
    (hrow : ∀ fuel cs x, DataW.trod enc Tryd.prog w 0 (fun _ => true) held fuel e cs = some x → ∃ l, cs = denL l ∧ l.length = sz ∧ ∃ x : α, l = enc' x ∧ Q x)
    (h : DataW.Trod enc Tryd.prog w 0 (fun _ => true) held t (.slice a n cap) d p) (hw : (d.weights Tryd.prog t).all (· ≤ reachBytes) = true) (hby : 0 < Tryd.prog.bytesOf e) : ∃ L : List α, L.length = n ∧ RdS enc' sz d0 (fun x => x < w.heap.size) w (.slice a n cap) L ∧ n ≤ 1000000000000000 ∧ ∀ x ∈ L, Q x := by
  rcases open_rows ht hC hsz (fun l => ∃ x : α, l = enc' x ∧ Q x) hrow h hw rfl with ⟨rfl, rfl⟩ | ⟨b, o0, u, fz, row, rfl, hl, hpos, hrep, hgood, hbb⟩
  · exact ⟨[], rfl, .inl ⟨rfl, _, _, rfl⟩, by omega, by simp⟩
  · have hb1 : cap ≤ reachBytes := Nat.le_trans (Nat.le_mul_of_pos_right _ hby) hbb
    simp only [reachBytes] at hb1
    let f : Nat → α := fun j => if h : j < cap then (hgood j h).choose else d0
    have hf : ∀ j, j < cap → row j = enc' (f j) := fun j hj => by
      show row j = enc' (if h : j < cap then (hgood j h).choose else d0)
      rw [dif_pos hj]
      exact (hgood j hj).choose_spec.1
    have hfQ : ∀ j, j < cap → Q (f j) := fun j hj => by
      show Q (if h : j < cap then (hgood j h).choose else d0)
      rw [dif_pos hj]
      exact (hgood j hj).choose_spec.2
    refine ⟨(List.range n).map f, by simp, ?_, by omega, fun x hx => (by
      obtain ⟨j, hj, rfl⟩ := List.mem_map.1 hx
      exact hfQ j (by have := List.mem_range.1 hj; omega))⟩
    rcases Nat.eq_zero_or_pos n with rfl | hn
    · exact .inl ⟨rfl, _, _, rfl⟩
    · refine .inr ⟨by simpa using hn, b, o0, cap, u, fz, SO.rep_lt hrep, by simp, rep_arr_sub hrep (by simpa using hl) (fun j hj => ?_), by simpa using hl⟩
      have hj' : j < n := by simpa using hj
      rw [hf j (by omega)]
      congr 2
      simp [nth, hj']

theorem steps_in {H : Type} {enc : TypeId × Value → H} {w : World} {held : Bool} {a : Option Addr} {n cap : Nat} {d : DataW H} {p : List MemPlace} (h : DataW.Trod enc Tryd.prog w 0 (fun _ => true) held 22 (.slice a n cap) d p) (hw : (d.weights Tryd.prog 22).all (· ≤ reachBytes) = true) :
    ∃ L : List Stp, L.length = n ∧ RdT (fun x => x < w.heap.size) w (.slice a n cap) L ∧ n ≤ 1000000000000000 ∧ ∀ x ∈ L, 0 ≤ x.a.by_ ∧ x.a.by_ < 256 :=
  lists_inQ Tryd.underlying22 (by kernel_rfl) (by decide) (fun e : Stp => 0 ≤ e.a.by_ ∧ e.a.by_ < 256) stp_row h hw (by rw [show Tryd.prog.bytesOf 39 = 72 by kernel_rfl]; decide)
end Go.Proofs.YtnikfpbhmfdkcaaDoor
