/- Bytes put one behind the other. -/
import Derived.Test.YtcepnjkcdkkdpaaRX
import Derived.Test.YtcepnjkcdkkdpaaRS
namespace Go.Proofs
set_option linter.unusedVariables false
set_option linter.unusedSimpArgs false
open Go Go.SX Go.RowKit Go.Crc

/-- Bytes in a row of one's own. -/
def Own (P : Nat → Prop) (w : World) (V : Value) (n : Nat) (g : Nat → BitVec 8) : Prop :=
  (n = 0 ∧ V = .slice none 0 0) ∨
  (0 < n ∧ ∃ (b cap N : Nat) (u : TypeId) (row : Nat → List SV), P b ∧ V = .slice (some ⟨b, 0, none⟩) n cap ∧ n ≤ cap ∧ cap ≤ N ∧ (SO.arr 0 N row 1 u (0, 0)).rep w b ∧ ∀ j, j < n → row j = [.v (.int .u8 (bv (g j)))])

def catB (n : Nat) (g h : Nat → BitVec 8) (j : Nat) : BitVec 8 := if j < n then g j else h (j - n)

theorem run_append_none {w : World} {ad a : Option Addr} {len cap c : Nat} {ty : TypeId} (h : len ≤ cap) :
    (Builtin.append_ #[22, 22] ty #[.slice ad len cap, .slice a 0 c]).run Try.prog w = .ok (.slice ad len cap) w := by
  have hs := run_sizeOf' (P := Try.prog) tok5 w
  have hf : (Builtin.firstCells 1 0 (.slice a 0 c)).run Try.prog w = .ok #[] w := by
    cases a with
    | none => simp [Builtin.firstCells]
    | some a => simp [Builtin.firstCells, loadCells, loadCellsFrom]
  have hi : (TypeDesc.slice 5 matches .int _) = false := rfl
  have hl : (Builtin.lenOf (.slice a 0 c)).run Try.prog w = .ok 0 w := by simp [Builtin.lenOf]
  cases ad with
  | none => simp [Builtin.append_, run_underlying Try.underlying22, hs, hf, hl, h]
  | some b => simp [Builtin.append_, run_underlying Try.underlying22, hs, hf, hl, h, storeCells]

theorem app_own {P : Nat → Prop} {w : World} (hP : ∀ x, w.heap.size ≤ x → P x) {V v : Value} {n m : Nat} {g h : Nat → BitVec 8} {ty : TypeId} (hV : Own P w V n g) (hB : ∀ x, P x → BV x w v m h) (hbig : 2 * (n + m) + 192 ≤ 281474976710656) :
    ∃ V' w', (Builtin.append_ #[22, 22] ty #[V, v]).run Try.prog w = .ok V' w' ∧ (∃ M, KeepsTo w M w' ∧ ∀ x ∈ M, P x) ∧ Own P w' V' (n + m) (catB n g h) := by
  have hs : w.heap.size ≤ w.heap.size := Nat.le_refl _
  rcases Nat.eq_zero_or_pos m with rfl | hm
  · have hv : ∃ a c, v = .slice a 0 c := (hB _ (hP _ hs)).slice
    obtain ⟨a, c, rfl⟩ := hv
    rcases hV with ⟨rfl, rfl⟩ | ⟨h0, b, cap, N, u, row, h1, rfl, h2, h3, h4, h5⟩
    · exact ⟨_, w, run_append_none (Nat.le_refl _), ⟨[], KeepsTo.refl w _, by simp⟩, .inl ⟨rfl, rfl⟩⟩
    · exact ⟨_, w, run_append_none h2, ⟨[], KeepsTo.refl w _, by simp⟩, .inr ⟨h0, b, cap, N, u, row, h1, rfl, h2, h3, h4, fun j hj => by rw [h5 j (by omega)]; simp [catB, show j < n by omega]⟩⟩
  · rcases hV with ⟨rfl, rfl⟩ | ⟨h0, b, cap, N, u, row, h1, rfl, h2, h3, h4, h5⟩
    · rcases hB _ (hP _ hs) with ⟨e, _⟩ | ⟨_, bb, o0, N2, cap2, t2, fz2, q1, rfl, q3, q4⟩
      · omega
      have hE : HpAll (frame0 w) w [(bb, false, .arr o0 N2 (fun j => [.v (.int .u8 (bv (h j)))]) 1 t2 fz2)] := ⟨⟨q4, by simp, by simp⟩, trivial⟩
      obtain ⟨w', b', cap', N', row', u', r1, r2, r3, r4, r5, r6, r7⟩ := append_mem (ty := ty) (st := ⟨[], [(bb, false, .arr o0 N2 (fun j => [.v (.int .u8 (bv (h j)))]) 1 t2 fz2)], w.heap.size, 0, 0, [], [], []⟩) cfg6_ok (hE.memRep (keeps0 w)) (x := .v (.slice none 0 0)) (y := .sl 0 bb o0 0 m cap2 1) (t := 22) (t' := 22) rfl rfl rfl rfl rfl rfl (by decide) (j := 0) rfl rfl (base2 := 0) (by omega) (.inl ⟨rfl, rfl, rfl, rfl⟩) (b := 0) (N := 0) (row := fun _ => []) (u := 0) hm (by show (2 * (0 + m) + 192) * 1 ≤ 281474976710656; omega) (fun j hj z hz => by simp at hz; subst hz; trivial)
      have hb' : b' = w.heap.size := by
        rcases r6 with ⟨e, _⟩ | e
        · cases e
        · exact e
      have hA := r7.all
      refine ⟨_, w', r1, ⟨[], r7.kp, by simp⟩, ?_⟩
      refine .inr ⟨by omega, b', cap', N', u', row', hP _ (by omega), rfl, by omega, r3, hA.2.1.1, fun j hj => ?_⟩
      have := r5 j (by omega)
      simp at this
      rw [this]
      simp [catB]
    · rcases hB b h1 with ⟨e, _⟩ | ⟨_, bb, o0, N2, cap2, t2, fz2, q1, rfl, q3, q4⟩
      · omega
      have hE : HpAll ⟨w, w.heap.size, [b]⟩ w [(bb, false, .arr o0 N2 (fun j => [.v (.int .u8 (bv (h j)))]) 1 t2 fz2), (b, true, .arr 0 N row 1 u (0, 0))] := ⟨⟨q4, by simp, by simpa using q1⟩, ⟨h4, by simp, by simp⟩, trivial⟩
      obtain ⟨w', b', cap', N', row', u', r1, r2, r3, r4, r5, r6, r7⟩ := append_mem (ty := ty) (st := ⟨[], [(bb, false, .arr o0 N2 (fun j => [.v (.int .u8 (bv (h j)))]) 1 t2 fz2), (b, true, .arr 0 N row 1 u (0, 0))], w.heap.size, 0, 0, [], [], []⟩) cfg6_ok (hE.memRep (KeepsTo.refl w _)) (x := .sl 1 b 0 0 n cap 1) (y := .sl 0 bb o0 0 m cap2 1) (t := 22) (t' := 22) rfl rfl rfl rfl rfl rfl (by decide) (j := 0) rfl rfl (base2 := 0) (by omega) (.inr ⟨rfl, rfl, h3, h2⟩) hm (by show (2 * (n + m) + 192) * 1 ≤ 281474976710656; omega) (fun j hj z hz => by simp at hz; subst hz; trivial)
      have hb' : P b' := by
        rcases r6 with ⟨_, rfl⟩ | rfl
        · exact h1
        · exact hP _ hs
      have hA := r7.all
      refine ⟨_, w', r1, ⟨[b], r7.kp, by simpa using h1⟩, .inr ⟨by omega, b', cap', N', u', row', hb', by rw [Nat.zero_mul, Nat.zero_add], r2, r3, hA.2.1.1, fun j hj => ?_⟩⟩
      by_cases hjn : j < n
      · rw [r4 j hjn, h5 j hjn]; simp [catB, hjn]
      · have := r5 (j - n) (by omega)
        simp at this
        rw [show n + (j - n) = j by omega] at this
        rw [this]
        simp [catB, hjn]

theorem Own.bv {P : Nat → Prop} {w : World} {V : Value} {n : Nat} {g : Nat → BitVec 8} (h : Own P w V n g) {b : Nat} (hb : ∀ x, P x → x ≠ b) : BV b w V n g := by
  rcases h with ⟨h0, e⟩ | ⟨h0, b', cap, N, u, row, h1, e, h2, h3, h4, h5⟩
  · exact .inl ⟨h0, _, _, e⟩
  · exact .inr ⟨h0, b', 0, n, cap, u, (0, 0), hb _ h1, e, Nat.le_refl _, rep_arr_sub h4 (by omega) fun j hj => by rw [h5 j hj]⟩

theorem Own.keep {P : Nat → Prop} {w w' : World} {V : Value} {n : Nat} {g : Nat → BitVec 8} (h : Own P w V n g) (hb : Below w.heap.size w w') : Own P w' V n g := by
  rcases h with h | ⟨h0, b', cap, N, u, row, h1, e, h2, h3, h4, h5⟩
  · exact .inl h
  · exact .inr ⟨h0, b', cap, N, u, row, h1, e, h2, h3, SO.rep_same h4 (hb.block _ (SO.rep_lt h4)), h5⟩
end Go.Proofs
