/- Spans: triples that came in. -/
import Derived.Test.YtpgknabmpghcoaaPFr
import Derived.Test.YtpgknabmpghcoaaQI
import Derived.Laws.IdiomArrays
namespace Go.Proofs.Ytpgknabmpghcoaa
set_option linter.unusedVariables false
set_option linter.unusedSimpArgs false
open Go Go.ChangeShapes Go.WideShapes Go.ChangeAt Go.RowKit Go.SX Go.Proofs

theorem tri_row {H : Type} {enc : TypeId × Value → H} {w : World} {held : Bool} (fuel : Nat) (cs : List Value) (x : DataW H × List MemPlace) (h : DataW.trod enc Try.prog w 0 (fun _ => true) held fuel 46 cs = some x) :
    ∃ l, cs = denL l ∧ l.length = 3 ∧ ∃ g : Int × Int × Int, l = triC g := by
  obtain ⟨xs, n, _, _, hlen, hxl, hf⟩ := DataW.trod_array Try.underlying46 h
  have hC : Try.prog.cellsOf 46 = 3 := by kernel_rfl
  have c3 : Try.prog.cellsOf 3 = 1 := by kernel_rfl
  rw [hC] at hlen
  match cs, hlen with
  | [v0, v1, v2], _ =>
    match xs, hxl with
    | [y0, y1, y2], _ =>
      have h0 := hf 0 (by omega)
      have h1 := hf 1 (by omega)
      have h2 := hf 2 (by omega)
      simp [c3] at h0 h1 h2
      obtain ⟨n0, e0, _, _⟩ := DataW.trod_int Try.underlying3 h0
      obtain ⟨n1, e1, _, _⟩ := DataW.trod_int Try.underlying3 h1
      obtain ⟨n2, e2, _, _⟩ := DataW.trod_int Try.underlying3 h2
      simp at e0 e1 e2
      subst e0 e1 e2
      exact ⟨triC (n0, n1, n2), rfl, rfl, (n0, n1, n2), rfl⟩

theorem tris_in {H : Type} {enc : TypeId × Value → H} {w : World} {held : Bool} {a : Option Addr} {n cap : Nat} {d : DataW H} {p : List MemPlace} (h : DataW.Trod enc Try.prog w 0 (fun _ => true) held 44 (.slice a n cap) d p) (hw : (d.weights Try.prog 44).all (· ≤ reachBytes) = true) :
    ∃ L : List (Int × Int × Int), L.length = n ∧ RdG (fun x => x < w.heap.size) w (.slice a n cap) L ∧ n ≤ 1000000000000000 :=
  lists_in Try.underlying44 (by kernel_rfl) (by decide) tri_row h hw (by rw [show Try.prog.bytesOf 46 = 24 by kernel_rfl]; decide)
end Go.Proofs.Ytpgknabmpghcoaa
