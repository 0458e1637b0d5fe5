/- The client: one more is over. -/
import Derived.Test.YtjkecmgobcppiaaKG
namespace Go.Proofs
set_option linter.unusedVariables false
set_option linter.unusedSimpArgs false
open Go Go.SX Go.RowKit

def snoc (n : Nat) (f : Nat → Fin11) (x : Fin11) (j : Nat) : Fin11 := if j < n then f j else x

theorem fin_flat {x : Fin11} (h : NotAgg x.data) : ∀ z ∈ finC x, NotAgg (den z) := by
  intro z hz
  simp only [finC, List.mem_cons, List.not_mem_nil, or_false] at hz
  rcases hz with rfl | rfl | rfl | rfl | rfl | rfl | rfl | rfl | rfl | rfl | rfl <;> first | trivial | exact h

theorem app_fin {P : Nat → Prop} {w : World} (hP : ∀ x, w.heap.size ≤ x → P x) {V : Value} {n s : Nat} {f : Nat → Fin11} {x : Fin11} {u : TypeId} {fz : Nat × Nat} {ty : TypeId} (hV : Fins P w V n f) (hx : NotAgg x.data) (hs : (SO.arr 0 1 (fun _ => finC x) 11 u fz).rep w s)
    (hne : ∀ b cap, V = .slice (some ⟨b, 0, none⟩) n cap → b ≠ s) (hbig : n ≤ 1000000) :
    ∃ V' w', (Builtin.append_ #[27, 27] ty #[V, .slice (some ⟨s, 0, none⟩) 1 1]).run Try.prog w = .ok V' w' ∧ (∃ M, KeepsTo w M w' ∧ ∀ x ∈ M, P x) ∧ Fins P w' V' (n + 1) (snoc n f x) := by
  have hsz : w.heap.size ≤ w.heap.size := Nat.le_refl _
  rcases hV with ⟨rfl, rfl⟩ | ⟨h0, b, N, cap, u', row, hPb, rfl, hc1, hc2, hrep, hrow⟩
  · have hE : HpAll (frame0 w) w [(s, false, .arr 0 1 (fun _ => finC x) 11 u fz)] := ⟨⟨hs, by simp, by simp⟩, trivial⟩
    obtain ⟨w', b', cap', N', row', u', r1, r2, r3, r4, r5, r6, r7⟩ := append_mem (ty := ty) (st := ⟨[], [(s, false, .arr 0 1 (fun _ => finC x) 11 u fz)], w.heap.size, 0, 0, [], [], []⟩) cfg21_ok (hE.memRep (keeps0 w)) (x := .v (.slice none 0 0)) (y := .sl 0 s 0 0 1 1 11) (t := 27) (t' := 27) rfl rfl rfl rfl rfl rfl (by decide) (j := 0) rfl rfl (base2 := 0) (by omega) (.inl ⟨rfl, rfl, rfl, rfl⟩) (b := 0) (N := 0) (row := fun _ => []) (u := 0) (by omega) (by show (2 * (0 + 1) + 192) * 104 ≤ 281474976710656; omega) (fun j hj z hz => fin_flat hx z hz)
    have hb' : b' = w.heap.size := by
      rcases r6 with ⟨e, _⟩ | e
      · cases e
      · exact e
    have hA := r7.all
    refine ⟨_, w', r1, ⟨[], r7.kp, by simp⟩, .inr ⟨by omega, b', N', cap', u', row', hP _ (by omega), rfl, by omega, r3, hA.2.1.1, fun j hj => ?_⟩⟩
    obtain rfl : j = 0 := by omega
    have := r5 0 (by omega)
    simp at this
    exact ⟨by rw [this]; simp [snoc], by simpa [snoc] using hx⟩
  · have hbs := hne b cap rfl
    have hE : HpAll ⟨w, w.heap.size, [b]⟩ w [(s, false, .arr 0 1 (fun _ => finC x) 11 u fz), (b, true, .arr 0 N row 11 u' (0, 0))] := ⟨⟨hs, by simp, by simpa using hbs.symm⟩, ⟨hrep, by simp, by simp⟩, trivial⟩
    obtain ⟨w', b', cap', N', row', u'', r1, r2, r3, r4, r5, r6, r7⟩ := append_mem (ty := ty) (st := ⟨[], [(s, false, .arr 0 1 (fun _ => finC x) 11 u fz), (b, true, .arr 0 N row 11 u' (0, 0))], w.heap.size, 0, 0, [], [], []⟩) cfg21_ok (hE.memRep (KeepsTo.refl w _)) (x := .sl 1 b 0 0 n cap 11) (y := .sl 0 s 0 0 1 1 11) (t := 27) (t' := 27) rfl rfl rfl rfl rfl rfl (by decide) (j := 0) rfl rfl (base2 := 0) (by omega) (.inr ⟨rfl, rfl, hc2, hc1⟩) (by omega) (by show (2 * (n + 1) + 192) * 104 ≤ 281474976710656; omega) (fun j hj z hz => fin_flat hx z hz)
    have hb' : P b' := by
      rcases r6 with ⟨_, rfl⟩ | rfl
      · exact hPb
      · exact hP _ hsz
    have hA := r7.all
    refine ⟨_, w', r1, ⟨[b], r7.kp, by simpa using hPb⟩, .inr ⟨by omega, b', N', cap', u'', row', hb', rfl, r2, r3, hA.2.1.1, fun j hj => ?_⟩⟩
    by_cases hjn : j < n
    · rw [r4 j hjn]
      exact ⟨by rw [(hrow j hjn).1]; simp [snoc, hjn], by simpa [snoc, hjn] using (hrow j hjn).2⟩
    · obtain rfl : j = n := by omega
      have := r5 0 (by omega)
      simp at this
      exact ⟨by rw [this]; simp [snoc], by simpa [snoc] using hx⟩
end Go.Proofs
