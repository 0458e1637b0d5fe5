/- CrcCounts: the closing frame. -/
import Derived.Test.YtcepnjkcdkkdpaaRY
import Derived.Test.YtcepnjkcdkkdpaaSxF
import Derived.Test.YtcepnjkcdkkdpaaSxG
import Derived.Test.YtcepnjkcdkkdpaaRows
import Derived.WalkKit
import Derived.ProofKit
import Derived.OpenShut
import Derived.ChangeOld
import Derived.Below
import Derived.SizedLaws
namespace Go.Proofs.Ytcepnjkcdkkdpaa
set_option linter.unusedVariables false
set_option linter.unusedSimpArgs false
open Go Go.ChangeShapes Go.WideShapes Go.ChangeAt Go.RowKit Go.SX Go.Crc
set_option linter.unusedVariables false

theorem own : ownKnob Try.prog.godebug = none := by kernel_rfl
theorem laidOut : laidOutB Try.prog = true := by kernel_rfl

theorem wf_i64 {x : Int} (h : (Lit.int .i64 x).wf = true) : inK x := by
  simp [Lit.wf, IntKind.min, IntKind.max, IntKind.bits, IntKind.signed] at h
  exact h

theorem wf_u8 {x : Int} (h : (Lit.int .u8 x).wf = true) : 0 ≤ x ∧ x < 256 := by
  simp [Lit.wf, IntKind.min, IntKind.max, IntKind.bits, IntKind.signed] at h
  omega

theorem wf_u32 {x : Int} (h : (Lit.int .u32 x).wf = true) : 0 ≤ x ∧ x < 4294967296 := by
  simp [Lit.wf, IntKind.min, IntKind.max, IntKind.bits, IntKind.signed] at h
  omega

theorem byte_row {H : Type} {enc : TypeId × Value → H} {w : World} {held : Bool} (fuel : Nat) (cs : List Value) (x : DataW H × List MemPlace) (h : DataW.trod enc Try.prog w 0 (fun _ => true) held fuel 5 cs = some x) :
    ∃ l, cs = denL l ∧ l.length = 1 ∧ ∃ y : BitVec 8, l = [.v (.int .u8 (bv y))] := by
  obtain ⟨n, e, _, wf⟩ := DataW.trod_int Try.underlying5 h
  obtain ⟨y, rfl⟩ := of_bv (wf_u8 wf)
  subst e
  exact ⟨[.v (.int .u8 (bv y))], rfl, rfl, y, rfl⟩


theorem bytes_in {H : Type} {enc : TypeId × Value → H} {w : World} {held : Bool} {a : Option Addr} {n cap : Nat} {d : DataW H} {p : List MemPlace} (h : DataW.Trod enc Try.prog w 0 (fun _ => true) held 22 (.slice a n cap) d p) :
    ∃ g : Nat → BitVec 8, (∀ b, w.heap.size ≤ b → BV b w (.slice a n cap) n g) ∧ n ≤ 9223372036854775807 := by
  rcases open_rows0 Try.underlying22 (by kernel_rfl) (by decide) (fun l => ∃ y : BitVec 8, l = [.v (.int .u8 (bv y))]) byte_row h rfl with ⟨rfl, rfl⟩ | ⟨b, o0, u, fz, row, rfl, hl, hpos, hrep, hgood, hcap⟩
  · exact ⟨fun _ => 0, fun b _ => .inl ⟨rfl, _, _, rfl⟩, by omega⟩
  · have hf : ∃ f : Nat → BitVec 8, ∀ j, j < cap → row j = [.v (.int .u8 (bv (f j)))] := by
      refine ⟨fun j => if h : j < cap then (hgood j h).choose else 0, fun j hj => ?_⟩
      simp only [dif_pos hj]
      exact (hgood j hj).choose_spec
    obtain ⟨f, hf⟩ := hf
    simp only [maxLen] at hcap
    refine ⟨f, fun b' hb' => ?_, by omega⟩
    rcases Nat.eq_zero_or_pos n with rfl | hn
    · exact .inl ⟨rfl, _, _, rfl⟩
    · have := SO.rep_lt hrep
      exact .inr ⟨hn, b, o0, cap, cap, u, fz, by omega, rfl, hl, rep_arr_sub hrep (Nat.le_refl _) fun j hj => by rw [hf j hj]⟩

theorem text_row {H : Type} {enc : TypeId × Value → H} {w : World} {held : Bool} (fuel : Nat) (cs : List Value) (x : DataW H × List MemPlace) (h : DataW.trod enc Try.prog w 0 (fun _ => true) held fuel 22 cs = some x) :
    ∃ l, cs = denL l ∧ l.length = 1 ∧ ∃ (v : Value) (n : Nat) (g : Nat → BitVec 8), l = [.v v] ∧ (∀ b, w.heap.size ≤ b → BV b w v n g) ∧ n ≤ 9223372036854775807 := by
  rcases Go.Deep.open_slice Try.underlying22 h with ⟨rfl, _⟩ | ⟨a, len, cap, _, _, _, _, rfl, _⟩
  · obtain ⟨g, h1, h2⟩ := bytes_in (a := none) (n := 0) (cap := 0) (d := x.1) (p := x.2) ⟨fuel, h⟩
    exact ⟨[.v (.slice none 0 0)], rfl, rfl, _, _, g, rfl, h1, h2⟩
  · obtain ⟨g, h1, h2⟩ := bytes_in (a := some a) (n := len) (cap := cap) (d := x.1) (p := x.2) ⟨fuel, h⟩
    exact ⟨[.v (.slice (some a) len cap)], rfl, rfl, _, _, g, rfl, h1, h2⟩

theorem texts_in {H : Type} {enc : TypeId × Value → H} {w : World} {held : Bool} {a : Option Addr} {n cap : Nat} {d : DataW H} {p : List MemPlace} (h : DataW.Trod enc Try.prog w 0 (fun _ => true) held 32 (.slice a n cap) d p) :
    ∃ (ns : Nat → Nat) (gs : Nat → Nat → BitVec 8), (∀ b, w.heap.size ≤ b → LV b w (.slice a n cap) n ns gs) ∧ n ≤ 9223372036854775807 := by
  rcases open_rows0 Try.underlying32 (by kernel_rfl) (by decide) (fun l => ∃ (v : Value) (n : Nat) (g : Nat → BitVec 8), l = [.v v] ∧ (∀ b, w.heap.size ≤ b → BV b w v n g) ∧ n ≤ 9223372036854775807) text_row h rfl with ⟨rfl, rfl⟩ | ⟨b, o0, u, fz, row, rfl, hl, hpos, hrep, hgood, hcap⟩
  · exact ⟨fun _ => 0, fun _ _ => 0, fun b _ => .inl ⟨rfl, _, _, rfl⟩, by omega⟩
  · have hf : ∃ f : Nat → Value × Nat × (Nat → BitVec 8), ∀ j, j < cap → row j = [.v (f j).1] ∧ (∀ b, w.heap.size ≤ b → BV b w (f j).1 (f j).2.1 (f j).2.2) ∧ (f j).2.1 ≤ 9223372036854775807 := by
      refine ⟨fun j => if h : j < cap then ((hgood j h).choose, (hgood j h).choose_spec.choose, (hgood j h).choose_spec.choose_spec.choose) else (.bool true, 0, fun _ => 0), fun j hj => ?_⟩
      simp only [dif_pos hj]
      exact (hgood j hj).choose_spec.choose_spec.choose_spec
    obtain ⟨f, hf⟩ := hf
    simp only [maxLen] at hcap
    refine ⟨fun j => (f j).2.1, fun j => (f j).2.2, fun b' hb' => ?_, by omega⟩
    rcases Nat.eq_zero_or_pos n with rfl | hn
    · exact .inl ⟨rfl, _, _, rfl⟩
    · have := SO.rep_lt hrep
      exact .inr ⟨hn, b, o0, cap, cap, u, fz, fun j => (f j).1, by omega, rfl, hl, rep_arr_sub hrep (Nat.le_refl _) fun j hj => by rw [(hf j hj).1], fun j hj => ⟨(hf j (by omega)).2.1 b' hb', (hf j (by omega)).2.2⟩⟩

set_option maxRecDepth 100000 in
theorem lifted (os : Os) (started : os.Started) (H : Type) (enc : TypeId × Value → H) :
    ReturnsInHanded {} Try.checked os 7 .any (Rows.crcCountsSpec.pre6 enc Try.prog Try.f7 Rows.crcCountsRow.domain false) (Rows.crcCountsSpec.post enc Try.prog Try.f7 false true false false) := by
  refine returnsInHanded_of_change_sized (C := Try.checked) own started (by kernel_rfl) Try.func7
    (ChangeSpec.witness6 (enc := enc) (C := Try.checked) false ⟨#[], #[.slice none 0 0, .int .i64 0], []⟩ 8 (by kernel_rfl) (by kernel_rfl) (by kernel_rfl) (by kernel_rfl)) ?_
  intro W base args ds gs before hval0 hW hcnd hwt _
  have hval : ∀ (j : Nat) t v, Try.f7.params[j]? = some t → args[j]? = some v → Value.okWide Try.prog W .any base t v := hval0
  have hW' := hW
  obtain ⟨p, q, hA0, hV, rfl, hfz, hnd⟩ := hW
  have hA : DataW.TrodAll enc Try.prog W 0 (fun _ => true) true Try.f7.params.toList args.toList ds p := hA0
  rw [Try.params7] at hA hval
  obtain ⟨v0, vs0, d0, ds0, p0, q0, hargs, rfl, rfl, h0, r0⟩ := trodAll_cons hA
  obtain ⟨v1, vs1, d1, ds1, p1, q1, rfl, rfl, rfl, h1, r1⟩ := trodAll_cons r0
  obtain ⟨rfl, rfl, rfl⟩ := trodAll_nil r1
  obtain rfl : args = #[v0, v1] := by cases args; simp_all
  obtain ⟨rfl, rfl⟩ := trodVars_none hV
  obtain ⟨a0, len0, cap0, rfl⟩ := okWide_slice Try.underlying32 (hval 0 32 v0 rfl rfl)
  have lt0 : ∀ x ∈ p0, x.block < W.heap.size := by obtain ⟨m, hm⟩ := h0; exact DataW.trod_lt m _ _ _ hm
  obtain ⟨a1, rfl, rfl, rfl, w1⟩ := open_int Try.underlying3 (hval 1 3 v1 rfl rfl) h1
  obtain ⟨ns, gs, hL, hm⟩ := texts_in h0
  clear hA0 hval0
  have walk : Calls Try.prog 7 #[.slice a0 len0 cap0, .int .i64 a1] W fun e W' => e = .returned (.bool true) ∧ Below W.heap.size W W' := by
    exact counts_ok W _ a1 (wf_i64 w1) len0 ns gs hL hm
  refine walk.mono fun e W' ⟨he, bel⟩ => ?_
  subst he
  exact ⟨_, rfl, _, _, _, [], _, [], hW', trodAll_mk1 (shut_bool Try.underlying4 _), (trodAll_cons_mk (Below.trod laidOut (by kernel_rfl) (of_decide_eq_true (by kernel_rfl)) h0 bel lt0) (trodAll_cons_mk (shut_int Try.underlying3 w1) trodAll_mk0)), rfl, bel.frame _, fun h => by cases h⟩

theorem over : Rows.crcCountsRow.holds Try.pinned (OpenSpec.ofChange Rows.crcCountsSpec) :=
  OpenClaim.holds_of_wide 7 Try.f7 rfl rfl rfl rfl rfl rfl rfl ⟨rfl, rfl, rfl, rfl, rfl⟩ rfl rfl rfl rfl rfl (by kernel_rfl) Try.func7 (by kernel_rfl)
    (of_decide_eq_true (by kernel_rfl)) (by unfold Func.isWrapper; first | (rw [if_pos (by decide +kernel)]; kernel_rfl) | (rw [if_neg (by decide +kernel)]; exact ⟨rfl, rfl⟩))
    (fun os started H enc _ => lifted os started H enc)

theorem crcCounts : Rows.CrcCountsSaid := over
#print axioms crcCounts
end Go.Proofs.Ytcepnjkcdkkdpaa
