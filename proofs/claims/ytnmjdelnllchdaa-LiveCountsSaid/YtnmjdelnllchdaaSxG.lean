/- Arguments that came in, deeper: slices within slices. -/
import Derived.Test.YtnmjdelnllchdaaSxF
namespace Go.SX
set_option linter.unusedVariables false
set_option linter.unusedSimpArgs false
set_option linter.unusedSectionVars false
open Go Go.RowKit Go.ChangeShapes Go.WideShapes Go.Deep

variable {H : Type} {enc : TypeId × Value → H} {P : Program} {w : World} {held : Bool}

/-- A slice that came in. -/
theorem open_rows0 {t e : TypeId} {sz : Nat} {v : Value} {d : DataW H} {p : List MemPlace} (ht : P.underlying t = some (.slice e)) (hC : P.cellsOf e = sz) (hsz : 0 < sz) (Good : List SV → Prop)
    (hrow : ∀ fuel cs x, DataW.trod enc P w 0 (fun _ => true) held fuel e cs = some x → ∃ l, cs = denL l ∧ l.length = sz ∧ Good l)
    (h : DataW.Trod enc P w 0 (fun _ => true) held t v d p) {a : Option Addr} {n cap : Nat} (hv : v = .slice a n cap) :
    (n = 0 ∧ cap = 0) ∨ ∃ (b o0 : Nat) (u : TypeId) (fz : Nat × Nat) (row : Nat → List SV), a = some ⟨b, o0, none⟩ ∧ n ≤ cap ∧ 0 < cap ∧ SO.rep w b (.arr o0 cap row sz u fz) ∧ (∀ j, j < cap → Good (row j)) ∧ cap ≤ maxLen := by
  subst hv
  obtain ⟨fuel, hf⟩ := h
  rcases open_slice ht hf with ⟨hcs, _⟩ | ⟨a', len, cap', m, nn, D, Pl, hcs, _, hl, hcap, hm, hx, hi⟩
  · simp [Value.cells] at hcs
    exact .inl ⟨hcs.2.1, hcs.2.2⟩
  · simp [Value.cells] at hcs
    obtain ⟨rfl, rfl, rfl⟩ := hcs
    simp only [if_true] at hm
    subst hm
    simp only [Prod.mk.injEq] at hx
    obtain ⟨hd, _⟩ := hx
    rcases Nat.eq_zero_or_pos m with rfl | hpos
    · exact .inl ⟨by omega, rfl⟩
    · right
      rw [hC] at hi
      obtain ⟨cs0, h0, _⟩ := hi 0 hpos
      obtain ⟨_, hlen0, hat0⟩ := World.cells?_some h0
      have hc0 : w.cell? ((a'.add (0 * sz)).add 0) = some (cs0[0]'(by omega)) := by rw [hat0 0 hsz]; exact List.getElem?_eq_getElem _
      obtain ⟨c, u, fz, hb, hs, _⟩ := cell_obj hc0
      have h00 : (a'.add (0 * sz)).add 0 = a' := by simp [Addr.add]
      rw [h00] at hs hb
      have hs' : a'.spot = none := hs
      have hb' : w.heap[a'.block]? = some (.cells c u fz) := hb
      have hel : ∀ j, j < m → ∃ l, (∀ s, s < sz → c[a'.off + (j * sz + s)]? = (denL l)[s]?) ∧ l.length = sz ∧ Good l := by
        intro j hj
        obtain ⟨cs, h1, h2⟩ := hi j hj
        obtain ⟨l, rfl, hll, hg⟩ := hrow _ _ _ h2
        obtain ⟨_, _, hat⟩ := World.cells?_some h1
        refine ⟨l, fun s hs2 => ?_, hll, hg⟩
        have h3 := hat s hs2
        rw [← h3, addr_add _ _ hs', addr_add _ _ rfl]
        simp [World.cell?, hb', Nat.add_assoc]
      have hchoose : ∃ row : Nat → List SV, ∀ j, j < m → (∀ s, s < sz → c[a'.off + (j * sz + s)]? = (denL (row j))[s]?) ∧ (row j).length = sz ∧ Good (row j) := by
        refine ⟨fun j => if h : j < m then (hel j h).choose else [], fun j hj => ?_⟩
        simp only [dif_pos hj]
        exact (hel j hj).choose_spec
      obtain ⟨row, hrows⟩ := hchoose
      obtain ⟨b, off, spot⟩ := a'
      simp only at hs' hb' hrows
      subst hs'
      refine ⟨b, off, u, fz, row, rfl, hl, hpos, ⟨c, hb', ?_, fun j hj => ⟨(hrows j hj).2.1, (hrows j hj).1⟩⟩, fun j hj => (hrows j hj).2.2, ?_⟩
      · obtain ⟨h1, h2, h3⟩ := hrows (m - 1) (by omega)
        have h4 := h1 (sz - 1) (by omega)
        have h5 : (denL (row (m - 1)))[sz - 1]? ≠ none := by
          rw [denL_get?]
          simp [List.getElem?_eq_getElem (show sz - 1 < (row (m - 1)).length by omega)]
        rw [← h4] at h5
        have h6 : off + ((m - 1) * sz + (sz - 1)) < c.size := by
          rcases Nat.lt_or_ge (off + ((m - 1) * sz + (sz - 1))) c.size with h | h
          · exact h
          · exact absurd (Array.getElem?_eq_none h) h5
        have h7 : (m - 1) * sz + sz = m * sz := by
          rw [← Nat.succ_mul]; congr 1; omega
        omega
      · exact hcap
end Go.SX
