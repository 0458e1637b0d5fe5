/- Live: arguments that came in. -/
import Derived.Test.YtnmjdelnllchdaaDB
import Derived.Test.YtnmjdelnllchdaaSxF
import Derived.Test.YtnmjdelnllchdaaSxG
import Derived.Test.YtnmjdelnllchdaaSxL
import Derived.Test.YtnmjdelnllchdaaRows
import Derived.WalkKit
import Derived.ProofKit
import Derived.OpenShut
import Derived.ChangeOld
import Derived.Below
import Derived.SizedLaws
namespace Go.Proofs.Ytnmjdelnllchdaa
set_option linter.unusedVariables false
set_option linter.unusedSimpArgs false
set_option linter.unusedSectionVars false
open Go Go.ChangeShapes Go.WideShapes Go.ChangeAt Go.RowKit Go.SX Go.Proofs

set_option maxRecDepth 100000
theorem own : ownKnob Try.prog.godebug = none := by kernel_rfl
theorem laidOut : laidOutB Try.prog = true := by kernel_rfl

theorem wf_i64 {x : Int} (h : (Lit.int .i64 x).wf = true) : inK x := by
  simp [Lit.wf, IntKind.min, IntKind.max, IntKind.bits, IntKind.signed] at h
  exact h

theorem num_row {H : Type} {enc : TypeId × Value → H} {w : World} {held : Bool} (fuel : Nat) (cs : List Value) (x : DataW H × List MemPlace) (h : DataW.trod enc Try.prog w 0 (fun _ => true) held fuel 3 cs = some x) :
    ∃ l, cs = denL l ∧ l.length = 1 ∧ ∃ y : Int, l = [.v (.int .i64 y)] := by
  obtain ⟨n, e, _, wf⟩ := DataW.trod_int Try.underlying3 h
  subst e
  exact ⟨[.v (.int .i64 n)], rfl, rfl, n, rfl⟩

/-- A slice that came in, as a list. -/
theorem lists_in {α : Type} {enc' : α → List SV} {sz : Nat} {d0 : α} {H : Type} {enc : TypeId × Value → H} {w : World} {held : Bool} {t e : TypeId} {a : Option Addr} {n cap : Nat} {d : DataW H} {p : List MemPlace} (ht : Try.prog.underlying t = some (.slice e)) (hC : Try.prog.cellsOf e = sz) (hsz : 0 < sz)
    (hrow : ∀ fuel cs x, DataW.trod enc Try.prog w 0 (fun _ => true) held fuel e cs = some x → ∃ l, cs = denL l ∧ l.length = sz ∧ ∃ x : α, l = enc' x)
    (h : DataW.Trod enc Try.prog w 0 (fun _ => true) held t (.slice a n cap) d p) (hw : (d.weights Try.prog t).all (· ≤ reachBytes) = true) (hby : 0 < Try.prog.bytesOf e) : ∃ L : List α, L.length = n ∧ RdS enc' sz d0 (fun x => x < w.heap.size) w (.slice a n cap) L ∧ n ≤ 1000000000000000 := by
  rcases open_rows ht hC hsz (fun l => ∃ x : α, l = enc' x) hrow h hw rfl with ⟨rfl, rfl⟩ | ⟨b, o0, u, fz, row, rfl, hl, hpos, hrep, hgood, hbb⟩
  · exact ⟨[], rfl, .inl ⟨rfl, _, _, rfl⟩, by omega⟩
  · have hb1 : cap ≤ reachBytes := Nat.le_trans (Nat.le_mul_of_pos_right _ hby) hbb
    simp only [reachBytes] at hb1
    let f : Nat → α := fun j => if h : j < cap then (hgood j h).choose else d0
    have hf : ∀ j, j < cap → row j = enc' (f j) := fun j hj => by
      show row j = enc' (if h : j < cap then (hgood j h).choose else d0)
      rw [dif_pos hj]
      exact (hgood j hj).choose_spec
    refine ⟨(List.range n).map f, by simp, ?_, by omega⟩
    rcases Nat.eq_zero_or_pos n with rfl | hn
    · exact .inl ⟨rfl, _, _, rfl⟩
    · refine .inr ⟨by simpa using hn, b, o0, cap, u, fz, SO.rep_lt hrep, by simp, rep_arr_sub hrep (by simpa using hl) (fun j hj => ?_), by simpa using hl⟩
      have hj' : j < n := by simpa using hj
      rw [hf j (by omega)]
      congr 2
      simp [nth, hj']

/-- A slice that came in, as a list. -/
theorem lists_inW {α : Type} {enc' : α → List SV} {sz : Nat} {d0 : α} {H : Type} {enc : TypeId × Value → H} {w : World} {held : Bool} {t e : TypeId} {a : Option Addr} {n cap : Nat} {d : DataW H} {p : List MemPlace} (ht : Try.prog.underlying t = some (.slice e)) (hC : Try.prog.cellsOf e = sz) (hsz : 0 < sz)
    (Q : α → Prop) (hrow : ∀ fuel cs x, DataW.trod enc Try.prog w 0 (fun _ => true) held fuel e cs = some x → (x.1.weights Try.prog e).all (· ≤ reachBytes) = true → ∃ l, cs = denL l ∧ l.length = sz ∧ ∃ x : α, l = enc' x ∧ Q x)
    (h : DataW.Trod enc Try.prog w 0 (fun _ => true) held t (.slice a n cap) d p) (hw : (d.weights Try.prog t).all (· ≤ reachBytes) = true) (hby : 0 < Try.prog.bytesOf e) : ∃ L : List α, L.length = n ∧ RdS enc' sz d0 (fun x => x < w.heap.size) w (.slice a n cap) L ∧ n ≤ 1000000000000000 ∧ ∀ x ∈ L, Q x := by
  rcases open_rowsW ht hC hsz (fun l => ∃ x : α, l = enc' x ∧ Q x) hrow h hw rfl with ⟨rfl, rfl⟩ | ⟨b, o0, u, fz, row, rfl, hl, hpos, hrep, hgood, hbb⟩
  · exact ⟨[], rfl, .inl ⟨rfl, _, _, rfl⟩, by omega, by simp⟩
  · have hb1 : cap ≤ reachBytes := Nat.le_trans (Nat.le_mul_of_pos_right _ hby) hbb
    simp only [reachBytes] at hb1
    let f : Nat → α := fun j => if h : j < cap then (hgood j h).choose else d0
    have hf : ∀ j, j < cap → row j = enc' (f j) := fun j hj => by
      show row j = enc' (if h : j < cap then (hgood j h).choose else d0)
      rw [dif_pos hj]
      exact (hgood j hj).choose_spec.1
    have hfQ : ∀ j, j < cap → Q (f j) := fun j hj => by
      show Q (if h : j < cap then (hgood j h).choose else d0)
      rw [dif_pos hj]
      exact (hgood j hj).choose_spec.2
    refine ⟨(List.range n).map f, by simp, ?_, by omega, fun x hx => (by
      obtain ⟨j, hj, rfl⟩ := List.mem_map.1 hx
      exact hfQ j (by have := List.mem_range.1 hj; omega))⟩
    rcases Nat.eq_zero_or_pos n with rfl | hn
    · exact .inl ⟨rfl, _, _, rfl⟩
    · refine .inr ⟨by simpa using hn, b, o0, cap, u, fz, SO.rep_lt hrep, by simp, rep_arr_sub hrep (by simpa using hl) (fun j hj => ?_), by simpa using hl⟩
      have hj' : j < n := by simpa using hj
      rw [hf j (by omega)]
      congr 2
      simp [nth, hj']

theorem ints_in {H : Type} {enc : TypeId × Value → H} {w : World} {held : Bool} {a : Option Addr} {n cap : Nat} {d : DataW H} {p : List MemPlace} (h : DataW.Trod enc Try.prog w 0 (fun _ => true) held 26 (.slice a n cap) d p) (hw : (d.weights Try.prog 26).all (· ≤ reachBytes) = true) :
    ∃ L : List Int, L.length = n ∧ RdI (fun x => x < w.heap.size) w (.slice a n cap) L ∧ n ≤ 1000000000000000 :=
  lists_in Try.underlying26 (by kernel_rfl) (by decide) num_row h hw (by rw [show Try.prog.bytesOf 3 = 8 by kernel_rfl]; decide)

theorem ext_row {H : Type} {enc : TypeId × Value → H} {w : World} {held : Bool} (fuel : Nat) (cs : List Value) (x : DataW H × List MemPlace) (h : DataW.trod enc Try.prog w 0 (fun _ => true) held fuel 51 cs = some x) :
    ∃ l, cs = denL l ∧ l.length = 5 ∧ ∃ e : Ext, l = extC e := by
  obtain ⟨xs, n, _, _, hlen, hxl, hf⟩ := DataW.trod_struct Try.underlying51 h
  have hC : Try.prog.cellsOf 51 = 5 := by kernel_rfl
  have c3 : Try.prog.cellsOf 3 = 1 := by kernel_rfl
  rw [hC] at hlen
  match cs, hlen with
  | [v0, v1, v2, v3, v4], _ =>
    match xs, hxl with
    | [y0, y1, y2, y3, y4], _ =>
      have h0 := hf 0 _ rfl
      have h1 := hf 1 _ rfl
      have h2 := hf 2 _ rfl
      have h3 := hf 3 _ rfl
      have h4 := hf 4 _ rfl
      simp [c3] at h0 h1 h2 h3 h4
      obtain ⟨n0, e0, _, _⟩ := DataW.trod_int Try.underlying3 h0
      obtain ⟨n1, e1, _, _⟩ := DataW.trod_int Try.underlying3 h1
      obtain ⟨n2, e2, _, _⟩ := DataW.trod_int Try.underlying3 h2
      obtain ⟨n3, e3, _, _⟩ := DataW.trod_int Try.underlying3 h3
      obtain ⟨n4, e4, _, _⟩ := DataW.trod_int Try.underlying3 h4
      simp at e0 e1 e2 e3 e4
      subst e0 e1 e2 e3 e4
      exact ⟨_, rfl, rfl, ⟨n0, n1, n2, n3, n4⟩, rfl⟩

theorem exts_in {H : Type} {enc : TypeId × Value → H} {w : World} {held : Bool} {a : Option Addr} {n cap : Nat} {d : DataW H} {p : List MemPlace} (h : DataW.Trod enc Try.prog w 0 (fun _ => true) held 25 (.slice a n cap) d p) (hw : (d.weights Try.prog 25).all (· ≤ reachBytes) = true) :
    ∃ L : List Ext, L.length = n ∧ RdE (fun x => x < w.heap.size) w (.slice a n cap) L ∧ n ≤ 1000000000000000 :=
  lists_in Try.underlying25 (by kernel_rfl) (by decide) ext_row h hw (by rw [show Try.prog.bytesOf 51 = 40 by kernel_rfl]; decide)

theorem byt_row {H : Type} {enc : TypeId × Value → H} {w : World} {held : Bool} (fuel : Nat) (cs : List Value) (x : DataW H × List MemPlace) (h : DataW.trod enc Try.prog w 0 (fun _ => true) held fuel 5 cs = some x) (_ : (x.1.weights Try.prog 5).all (· ≤ reachBytes) = true) :
    ∃ l, cs = denL l ∧ l.length = 1 ∧ True := by
  obtain ⟨n, e, _, wf⟩ := DataW.trod_int Try.underlying5 h
  subst e
  exact ⟨[.v (.int .u8 n)], rfl, rfl, trivial⟩

theorem dat_in {H : Type} {enc : TypeId × Value → H} {w : World} {held : Bool} {fuel : Nat} {v : Value} {x : DataW H × List MemPlace} (h : DataW.trod enc Try.prog w 0 (fun _ => true) held fuel 40 [v] = some x) (hw : (x.1.weights Try.prog 40).all (· ≤ reachBytes) = true) :
    ∃ (ad : Option Addr) (n cp : Nat), v = .slice ad n cp ∧ n ≤ 1000000000000000 := by
  rcases Go.Deep.open_slice Try.underlying40 h with ⟨hcs, _⟩ | ⟨a, len, cap, _, _, _, _, hcs, _⟩
  · cases hcs
    exact ⟨_, _, _, rfl, by omega⟩
  · cases hcs
    rcases open_rowsW Try.underlying40 (by kernel_rfl) (by decide) (fun _ => True) byt_row (d := x.1) (p := x.2) ⟨fuel, h⟩ hw rfl with ⟨rfl, rfl⟩ | ⟨b, o0, u, fz, row, ha, hl, hpos, hrep, hgood, hbb⟩
    · exact ⟨_, _, _, rfl, by omega⟩
    · clear ha
      rw [show Try.prog.bytesOf 5 = 1 by kernel_rfl] at hbb
      simp only [reachBytes] at hbb
      exact ⟨_, _, _, rfl, by omega⟩

theorem zon_row {H : Type} {enc : TypeId × Value → H} {w : World} {held : Bool} (fuel : Nat) (cs : List Value) (x : DataW H × List MemPlace) (h : DataW.trod enc Try.prog w 0 (fun _ => true) held fuel 42 cs = some x) (hw : (x.1.weights Try.prog 42).all (· ≤ reachBytes) = true) :
    ∃ l, cs = denL l ∧ l.length = 3 ∧ ∃ z : Zon, l = znC z ∧ z.n ≤ 1000000000000000 := by
  obtain ⟨xs, n, _, hx, hlen, hxl, hf⟩ := DataW.trod_struct Try.underlying42 h
  have hC : Try.prog.cellsOf 42 = 3 := by kernel_rfl
  have c3 : Try.prog.cellsOf 3 = 1 := by kernel_rfl
  have c40 : Try.prog.cellsOf 40 = 1 := by kernel_rfl
  rw [hC] at hlen
  match cs, hlen with
  | [v0, v1, v2], _ =>
    match xs, hxl with
    | [y0, y1, y2], _ =>
      have h0 := hf 0 _ rfl
      have h1 := hf 1 _ rfl
      have h2 := hf 2 _ rfl
      simp [c3, c40] at h0 h1 h2
      obtain ⟨n0, e0, _, _⟩ := DataW.trod_int Try.underlying3 h0
      obtain ⟨n1, e1, _, _⟩ := DataW.trod_int Try.underlying3 h1
      simp at e0 e1
      subst e0 e1
      have hd : x.1 = .agg [y0.1, y1.1, y2.1] := by
        have := congrArg Prod.fst hx
        simpa using this
      have hw2 : (y2.1.weights Try.prog 40).all (· ≤ reachBytes) = true := by
        rw [hd] at hw
        simp only [DataW.weights, Try.underlying42, List.map_cons, List.map_nil, DataW.weightsEach, List.all_append, Bool.and_eq_true] at hw
        simp_all
      obtain ⟨ad, n, cp, rfl, hn⟩ := dat_in h2 hw2
      exact ⟨_, rfl, rfl, ⟨n0, n1, ad, n, cp⟩, rfl, hn⟩

theorem zons_in {H : Type} {enc : TypeId × Value → H} {w : World} {held : Bool} {fuel : Nat} {v : Value} {x : DataW H × List MemPlace} (h : DataW.trod enc Try.prog w 0 (fun _ => true) held fuel 22 [v] = some x) (hw : (x.1.weights Try.prog 22).all (· ≤ reachBytes) = true) :
    ∃ L : List Zon, RdZ (fun x => x < w.heap.size) w v L ∧ L.length ≤ 1000000000000000 ∧ ∀ z ∈ L, z.n ≤ 1000000000000000 := by
  rcases Go.Deep.open_slice Try.underlying22 h with ⟨hcs, _⟩ | ⟨a, len, cap, _, _, _, _, hcs, _⟩
  · cases hcs
    exact ⟨[], .inl ⟨rfl, _, _, rfl⟩, by simp, by simp⟩
  · cases hcs
    obtain ⟨L, hl, hL, hb, hQ⟩ := lists_inW (d := x.1) (p := x.2) (d0 := zon0) Try.underlying22 (by kernel_rfl) (by decide) (fun z : Zon => z.n ≤ 1000000000000000) zon_row ⟨fuel, h⟩ hw (by rw [show Try.prog.bytesOf 42 = 40 by kernel_rfl]; decide)
    exact ⟨L, hL, by omega, hQ⟩

theorem dev_in {H : Type} {enc : TypeId × Value → H} {w : World} {held : Bool} {vs : Array Value} {d : DataW H} {p : List MemPlace} (h : DataW.Trod enc Try.prog w 0 (fun _ => true) held 24 (.agg vs) d p) (hw : (d.weights Try.prog 24).all (· ≤ reachBytes) = true) :
    ∃ (t : Dev) (v : Value), Value.agg vs = den (.ag (devC t v)) ∧ RdZ (fun x => x < w.heap.size) w v t.Z ∧ t.Z.length ≤ 1000000000000000 ∧ ∀ z ∈ t.Z, z.n ≤ 1000000000000000 := by
  obtain ⟨fuel, h⟩ := h
  obtain ⟨xs, n, _, hx, hlen, hxl, hf⟩ := DataW.trod_struct Try.underlying24 h
  have hC : Try.prog.cellsOf 24 = 4 := by kernel_rfl
  have c3 : Try.prog.cellsOf 3 = 1 := by kernel_rfl
  have c22 : Try.prog.cellsOf 22 = 1 := by kernel_rfl
  rw [hC] at hlen
  obtain ⟨cs, hcs⟩ : ∃ cs : List Value, vs.toList = cs := ⟨_, rfl⟩
  have hv : Value.agg vs = Value.agg cs.toArray := by rw [← hcs]
  have hcell : (Value.agg vs).cells.toList = cs := hcs
  rw [hcell] at hlen hf
  match cs, hlen with
  | [v0, v1, v2, v3], _ =>
    match xs, hxl with
    | [y0, y1, y2, y3], _ =>
      have h0 := hf 0 _ rfl
      have h1 := hf 1 _ rfl
      have h2 := hf 2 _ rfl
      have h3 := hf 3 _ rfl
      simp [c3, c22] at h0 h1 h2 h3
      obtain ⟨n0, e0, _, _⟩ := DataW.trod_int Try.underlying3 h0
      obtain ⟨n1, e1, _, _⟩ := DataW.trod_int Try.underlying3 h1
      obtain ⟨n2, e2, _, _⟩ := DataW.trod_int Try.underlying3 h2
      simp at e0 e1 e2
      subst e0 e1 e2
      have hd : d = .agg [y0.1, y1.1, y2.1, y3.1] := by
        have := congrArg Prod.fst hx
        simpa using this
      have hw3 : (y3.1.weights Try.prog 22).all (· ≤ reachBytes) = true := by
        rw [hd] at hw
        simp only [DataW.weights, Try.underlying24, List.map_cons, List.map_nil, DataW.weightsEach, List.all_append, Bool.and_eq_true] at hw
        simp_all
      obtain ⟨L, hL, hb, hQ⟩ := zons_in h3 hw3
      exact ⟨⟨n0, n1, n2, L⟩, v3, by rw [hv]; rfl, hL, hb, hQ⟩
end Go.Proofs.Ytnmjdelnllchdaa
