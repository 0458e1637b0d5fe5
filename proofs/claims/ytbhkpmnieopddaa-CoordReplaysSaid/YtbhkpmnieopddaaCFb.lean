/- CFb: texts of this proof, joined. -/
import Derived.Test.YtbhkpmnieopddaaCFr
import Derived.Test.YtbhkpmnieopddaaCwC
set_option linter.unusedVariables false
set_option linter.unusedSimpArgs false
set_option linter.unusedSectionVars false
namespace Go.Proofs.Ytbhkpmnieopddaa
open Go Go.ChangeShapes Go.WideShapes Go.ChangeAt Go.RowKit Go.SX Go.Proofs Go.Proofs.C8
set_option maxRecDepth 100000 in
theorem evt_cellsB {H : Type} {enc : TypeId × Value → H} {w : World} {held : Bool} (fuel : Nat) (cs : List Value) (x : DataW H × List MemPlace) (h : DataW.trod enc Try.prog w 0 (fun _ => true) held fuel 47 cs = some x) :
    ∃ e : Evt, cs = denL (evC e) ∧ ∀ y ∈ evL e, y ≤ 9223372036854775807 := by
  obtain ⟨xs, n, _, _, hlen, hxl, hf⟩ := DataW.trod_struct Try.underlying47 h
  have hC : Try.prog.cellsOf 47 = 8 := by kernel_rfl
  have c3 : Try.prog.cellsOf 3 = 1 := by kernel_rfl
  rw [hC] at hlen
  match cs, hlen with
  | [v0, v1, v2, v3, v4, v5, v6, v7], _ =>
    match xs, hxl with
    | [y0, y1, y2, y3, y4, y5, y6, y7], _ =>
      have h0 := hf 0 _ rfl
      have h1 := hf 1 _ rfl
      have h2 := hf 2 _ rfl
      have h3 := hf 3 _ rfl
      have h4 := hf 4 _ rfl
      have h5 := hf 5 _ rfl
      have h6 := hf 6 _ rfl
      have h7 := hf 7 _ rfl
      simp [c3] at h0 h1 h2 h3 h4 h5 h6 h7
      obtain ⟨n0, e0, _, f0⟩ := DataW.trod_int Try.underlying3 h0
      obtain ⟨n1, e1, _, f1⟩ := DataW.trod_int Try.underlying3 h1
      obtain ⟨n2, e2, _, f2⟩ := DataW.trod_int Try.underlying3 h2
      obtain ⟨n3, e3, _, f3⟩ := DataW.trod_int Try.underlying3 h3
      obtain ⟨n4, e4, _, f4⟩ := DataW.trod_int Try.underlying3 h4
      obtain ⟨n5, e5, _, f5⟩ := DataW.trod_int Try.underlying3 h5
      obtain ⟨n6, e6, _, f6⟩ := DataW.trod_int Try.underlying3 h6
      obtain ⟨n7, e7, _, f7⟩ := DataW.trod_int Try.underlying3 h7
      simp at e0 e1 e2 e3 e4 e5 e6 e7
      subst e0 e1 e2 e3 e4 e5 e6 e7
      exact ⟨⟨n0, n1, n2, n3, n4, n5, n6, n7⟩, rfl, by simp [evL]; exact ⟨(wf_i64 f0).2, (wf_i64 f1).2, (wf_i64 f2).2, (wf_i64 f3).2, (wf_i64 f4).2, (wf_i64 f5).2, (wf_i64 f6).2, (wf_i64 f7).2⟩⟩
set_option maxRecDepth 100000 in
theorem evt_rowB {H : Type} {enc : TypeId × Value → H} {w : World} {held : Bool} (fuel : Nat) (cs : List Value) (x : DataW H × List MemPlace) (h : DataW.trod enc Try.prog w 0 (fun _ => true) held fuel 47 cs = some x) :
    ∃ l, cs = denL l ∧ l.length = 8 ∧ ∃ e : Evt, l = evC e ∧ ∀ y ∈ evL e, y ≤ 9223372036854775807 := by
  obtain ⟨e, he, hu⟩ := evt_cellsB fuel cs x h
  exact ⟨evC e, he, rfl, e, rfl, hu⟩
set_option maxRecDepth 100000 in
theorem lists_inQ {α : Type} {enc' : α → List SV} {sz : Nat} {d0 : α} {H : Type} {enc : TypeId × Value → H} {w : World} {held : Bool} {t e : TypeId} {a : Option Addr} {n cap : Nat} {d : DataW H} {p : List MemPlace} (ht : Try.prog.underlying t = some (.slice e)) (hC : Try.prog.cellsOf e = sz) (hsz : 0 < sz)
    (Q : α → Prop)
    (hrow : ∀ fuel cs x, DataW.trod enc Try.prog w 0 (fun _ => true) held fuel e cs = some x → ∃ l, cs = denL l ∧ l.length = sz ∧ ∃ x : α, l = enc' x ∧ Q x)
    (h : DataW.Trod enc Try.prog w 0 (fun _ => true) held t (.slice a n cap) d p) (hw : (d.weights Try.prog t).all (· ≤ reachBytes) = true) (hby : 0 < Try.prog.bytesOf e) : ∃ L : List α, L.length = n ∧ RdS enc' sz d0 (fun x => x < w.heap.size) w (.slice a n cap) L ∧ n ≤ 1000000000000000 ∧ ∀ x ∈ L, Q x := by
  rcases open_rows ht hC hsz (fun l => ∃ x : α, l = enc' x ∧ Q x) hrow h hw rfl with ⟨rfl, rfl⟩ | ⟨b, o0, u, fz, row, rfl, hl, hpos, hrep, hgood, hbb⟩
  · exact ⟨[], rfl, .inl ⟨rfl, _, _, rfl⟩, by omega, by simp⟩
  · have hb1 : cap ≤ reachBytes := Nat.le_trans (Nat.le_mul_of_pos_right _ hby) hbb
    simp only [reachBytes] at hb1
    let f : Nat → α := fun j => if h : j < cap then (hgood j h).choose else d0
    have hf : ∀ j, j < cap → row j = enc' (f j) := fun j hj => by
      show row j = enc' (if h : j < cap then (hgood j h).choose else d0)
      rw [dif_pos hj]
      exact (hgood j hj).choose_spec.1
    have hfQ : ∀ j, j < cap → Q (f j) := fun j hj => by
      show Q (if h : j < cap then (hgood j h).choose else d0)
      rw [dif_pos hj]
      exact (hgood j hj).choose_spec.2
    refine ⟨(List.range n).map f, by simp, ?_, by omega, fun x hx => (by
      obtain ⟨j, hj, rfl⟩ := List.mem_map.1 hx
      exact hfQ j (by have := List.mem_range.1 hj; omega))⟩
    rcases Nat.eq_zero_or_pos n with rfl | hn
    · exact .inl ⟨rfl, _, _, rfl⟩
    · refine .inr ⟨by simpa using hn, b, o0, cap, u, fz, SO.rep_lt hrep, by simp, rep_arr_sub hrep (by simpa using hl) (fun j hj => ?_), by simpa using hl⟩
      have hj' : j < n := by simpa using hj
      rw [hf j (by omega)]
      congr 2
      simp [nth, hj']
set_option maxRecDepth 100000 in
theorem evts_inB {H : Type} {enc : TypeId × Value → H} {w : World} {held : Bool} {a : Option Addr} {n cap : Nat} {d : DataW H} {p : List MemPlace} (h : DataW.Trod enc Try.prog w 0 (fun _ => true) held 22 (.slice a n cap) d p) (hw : (d.weights Try.prog 22).all (· ≤ reachBytes) = true) :
    ∃ L : List Evt, L.length = n ∧ RdE (fun x => x < w.heap.size) w (.slice a n cap) L ∧ n ≤ 1000000000000000 ∧ ∀ e ∈ L, ∀ y ∈ evL e, y ≤ 9223372036854775807 :=
  lists_inQ Try.underlying22 (by kernel_rfl) (by decide) (fun e => ∀ y ∈ evL e, y ≤ 9223372036854775807) evt_rowB h hw (by rw [show Try.prog.bytesOf 47 = 64 by kernel_rfl]; decide)
end Go.Proofs.Ytbhkpmnieopddaa
