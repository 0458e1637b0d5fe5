/- Leases: operations that came in. -/
import Derived.Test.YtnabelpgmcenlaaLFr
import Derived.Test.YtnabelpgmcenlaaLP
namespace Go.Proofs.Ytnabelpgmcenlaa
set_option linter.unusedVariables false
set_option linter.unusedSimpArgs false
open Go Go.ChangeShapes Go.WideShapes Go.ChangeAt Go.RowKit Go.SX Go.Proofs

theorem opr_cells {H : Type} {enc : TypeId × Value → H} {w : World} {held : Bool} (fuel : Nat) (cs : List Value) (x : DataW H × List MemPlace) (h : DataW.trod enc Try.prog w 0 (fun _ => true) held fuel 46 cs = some x) :
    ∃ e : Opr, cs = denL (oprC e) := by
  obtain ⟨xs, n, _, _, hlen, hxl, hf⟩ := DataW.trod_struct Try.underlying46 h
  have hC : Try.prog.cellsOf 46 = 5 := by kernel_rfl
  have c3 : Try.prog.cellsOf 3 = 1 := by kernel_rfl
  rw [hC] at hlen
  match cs, hlen with
  | [v0, v1, v2, v3, v4], _ =>
    match xs, hxl with
    | [y0, y1, y2, y3, y4], _ =>
      have h0 := hf 0 _ rfl
      have h1 := hf 1 _ rfl
      have h2 := hf 2 _ rfl
      have h3 := hf 3 _ rfl
      have h4 := hf 4 _ rfl
      simp [c3] at h0 h1 h2 h3 h4
      obtain ⟨n0, e0, _, _⟩ := DataW.trod_int Try.underlying3 h0
      obtain ⟨n1, e1, _, _⟩ := DataW.trod_int Try.underlying3 h1
      obtain ⟨n2, e2, _, _⟩ := DataW.trod_int Try.underlying3 h2
      obtain ⟨n3, e3, _, _⟩ := DataW.trod_int Try.underlying3 h3
      obtain ⟨n4, e4, _, _⟩ := DataW.trod_int Try.underlying3 h4
      simp at e0 e1 e2 e3 e4
      subst e0 e1 e2 e3 e4
      exact ⟨⟨n0, n1, n2, n3, n4⟩, rfl⟩

theorem opr_row {H : Type} {enc : TypeId × Value → H} {w : World} {held : Bool} (fuel : Nat) (cs : List Value) (x : DataW H × List MemPlace) (h : DataW.trod enc Try.prog w 0 (fun _ => true) held fuel 46 cs = some x) :
    ∃ l, cs = denL l ∧ l.length = 5 ∧ ∃ e : Opr, l = oprC e := by
  obtain ⟨e, he⟩ := opr_cells fuel cs x h
  exact ⟨oprC e, he, rfl, e, rfl⟩

theorem opr_in {H : Type} {enc : TypeId × Value → H} {w : World} {held : Bool} {vs : Array Value} {d : DataW H} {p : List MemPlace} (h : DataW.Trod enc Try.prog w 0 (fun _ => true) held 46 (.agg vs) d p) : ∃ e : Opr, Value.agg vs = den (.ag (oprC e)) := by
  obtain ⟨fuel, h⟩ := h
  obtain ⟨e, he⟩ := opr_cells fuel _ _ h
  refine ⟨e, ?_⟩
  have : vs.toList = denL (oprC e) := he
  simp only [den, ← this]

theorem oprs_in {H : Type} {enc : TypeId × Value → H} {w : World} {held : Bool} {a : Option Addr} {n cap : Nat} {d : DataW H} {p : List MemPlace} (h : DataW.Trod enc Try.prog w 0 (fun _ => true) held 44 (.slice a n cap) d p) (hw : (d.weights Try.prog 44).all (· ≤ reachBytes) = true) :
    ∃ L : List Opr, L.length = n ∧ RdO (fun x => x < w.heap.size) w (.slice a n cap) L ∧ n ≤ 1000000000000000 :=
  lists_in Try.underlying44 (by kernel_rfl) (by decide) opr_row h hw (by rw [show Try.prog.bytesOf 46 = 40 by kernel_rfl]; decide)
end Go.Proofs.Ytnabelpgmcenlaa
