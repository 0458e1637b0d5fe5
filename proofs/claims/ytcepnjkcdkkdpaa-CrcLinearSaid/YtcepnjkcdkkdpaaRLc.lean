/- CrcLinear: the closing frame. -/
import Derived.Test.YtcepnjkcdkkdpaaRLb
import Derived.Test.YtcepnjkcdkkdpaaSxF
import Derived.Test.YtcepnjkcdkkdpaaSxG
import Derived.Test.YtcepnjkcdkkdpaaRows
import Derived.WalkKit
import Derived.ProofKit
import Derived.OpenShut
import Derived.ChangeOld
import Derived.Below
import Derived.SizedLaws
namespace Go.Proofs.Ytcepnjkcdkkdpaa
set_option linter.unusedVariables false
set_option linter.unusedSimpArgs false
open Go Go.ChangeShapes Go.WideShapes Go.ChangeAt Go.RowKit Go.SX Go.Crc
set_option linter.unusedVariables false

theorem own : ownKnob Try.prog.godebug = none := by kernel_rfl
theorem laidOut : laidOutB Try.prog = true := by kernel_rfl

theorem wf_i64 {x : Int} (h : (Lit.int .i64 x).wf = true) : inK x := by
  simp [Lit.wf, IntKind.min, IntKind.max, IntKind.bits, IntKind.signed] at h
  exact h

theorem wf_u8 {x : Int} (h : (Lit.int .u8 x).wf = true) : 0 ≤ x ∧ x < 256 := by
  simp [Lit.wf, IntKind.min, IntKind.max, IntKind.bits, IntKind.signed] at h
  omega

theorem wf_u32 {x : Int} (h : (Lit.int .u32 x).wf = true) : 0 ≤ x ∧ x < 4294967296 := by
  simp [Lit.wf, IntKind.min, IntKind.max, IntKind.bits, IntKind.signed] at h
  omega

theorem byte_row {H : Type} {enc : TypeId × Value → H} {w : World} {held : Bool} (fuel : Nat) (cs : List Value) (x : DataW H × List MemPlace) (h : DataW.trod enc Try.prog w 0 (fun _ => true) held fuel 5 cs = some x) :
    ∃ l, cs = denL l ∧ l.length = 1 ∧ ∃ y : BitVec 8, l = [.v (.int .u8 (bv y))] := by
  obtain ⟨n, e, _, wf⟩ := DataW.trod_int Try.underlying5 h
  obtain ⟨y, rfl⟩ := of_bv (wf_u8 wf)
  subst e
  exact ⟨[.v (.int .u8 (bv y))], rfl, rfl, y, rfl⟩


theorem bytes_in {H : Type} {enc : TypeId × Value → H} {w : World} {held : Bool} {a : Option Addr} {n cap : Nat} {d : DataW H} {p : List MemPlace} (h : DataW.Trod enc Try.prog w 0 (fun _ => true) held 22 (.slice a n cap) d p) :
    ∃ g : Nat → BitVec 8, (∀ b, w.heap.size ≤ b → BV b w (.slice a n cap) n g) ∧ n ≤ 9223372036854775807 := by
  rcases open_rows0 Try.underlying22 (by kernel_rfl) (by decide) (fun l => ∃ y : BitVec 8, l = [.v (.int .u8 (bv y))]) byte_row h rfl with ⟨rfl, rfl⟩ | ⟨b, o0, u, fz, row, rfl, hl, hpos, hrep, hgood, hcap⟩
  · exact ⟨fun _ => 0, fun b _ => .inl ⟨rfl, _, _, rfl⟩, by omega⟩
  · have hf : ∃ f : Nat → BitVec 8, ∀ j, j < cap → row j = [.v (.int .u8 (bv (f j)))] := by
      refine ⟨fun j => if h : j < cap then (hgood j h).choose else 0, fun j hj => ?_⟩
      simp only [dif_pos hj]
      exact (hgood j hj).choose_spec
    obtain ⟨f, hf⟩ := hf
    simp only [maxLen] at hcap
    refine ⟨f, fun b' hb' => ?_, by omega⟩
    rcases Nat.eq_zero_or_pos n with rfl | hn
    · exact .inl ⟨rfl, _, _, rfl⟩
    · have := SO.rep_lt hrep
      exact .inr ⟨hn, b, o0, cap, cap, u, fz, by omega, rfl, hl, rep_arr_sub hrep (Nat.le_refl _) fun j hj => by rw [hf j hj]⟩

theorem bytes_shape {H : Type} {enc : TypeId × Value → H} {w : World} {held : Bool} {a : Option Addr} {n cap : Nat} {d : DataW H} {p : List MemPlace} (h : DataW.Trod enc Try.prog w 0 (fun _ => true) held 22 (.slice a n cap) d p) :
    n ≤ cap ∧ (cap ≠ 0 → ∀ x, a = some x → x.spot = none) := by
  rcases open_rows0 Try.underlying22 (by kernel_rfl) (by decide) (fun l => ∃ y : BitVec 8, l = [.v (.int .u8 (bv y))]) byte_row h rfl with ⟨rfl, rfl⟩ | ⟨b, o0, u, fz, row, rfl, hl, hpos, hrep, hgood, hcap⟩
  · exact ⟨Nat.le_refl _, fun h => absurd rfl h⟩
  · exact ⟨hl, fun _ x hx => by cases hx; rfl⟩

theorem bytes_in_small {H : Type} {enc : TypeId × Value → H} {w : World} {held : Bool} {a : Option Addr} {n cap : Nat} {d : DataW H} {p : List MemPlace} (h : DataW.Trod enc Try.prog w 0 (fun _ => true) held 22 (.slice a n cap) d p) (hw : (d.weights Try.prog 22).all (· ≤ reachBytes) = true) :
    n ≤ 140737488351232 := by
  rcases open_rows Try.underlying22 (by kernel_rfl) (by decide) (fun l => ∃ y : BitVec 8, l = [.v (.int .u8 (bv y))]) byte_row h hw rfl with ⟨rfl, rfl⟩ | ⟨b, o0, u, fz, row, rfl, hl, hpos, hrep, hgood, hby⟩
  · omega
  · have hb1 : Try.prog.bytesOf 5 = 1 := by kernel_rfl
    rw [hb1] at hby
    simp only [reachBytes] at hby
    omega

set_option maxRecDepth 100000 in
theorem lifted (os : Os) (started : os.Started) (H : Type) (enc : TypeId × Value → H) :
    ReturnsInHanded {} Try.checked os 4 .any (Rows.crcLinearSpec.pre6 enc Try.prog Try.f4 Rows.crcLinearRow.domain false) (Rows.crcLinearSpec.post enc Try.prog Try.f4 false true false false) := by
  refine returnsInHanded_of_change_sized (C := Try.checked) own started (by kernel_rfl) Try.func4
    (ChangeSpec.witness6 (enc := enc) (C := Try.checked) false ⟨#[], #[.slice none 0 0, .slice none 0 0, .slice none 0 0], []⟩ 8 (by kernel_rfl) (by kernel_rfl) (by kernel_rfl) (by kernel_rfl)) ?_
  intro W base args ds gs before hval0 hW hcnd hwt _
  have hval : ∀ (j : Nat) t v, Try.f4.params[j]? = some t → args[j]? = some v → Value.okWide Try.prog W .any base t v := hval0
  have hW' := hW
  obtain ⟨p, q, hA0, hV, rfl, hfz, hnd⟩ := hW
  have hA : DataW.TrodAll enc Try.prog W 0 (fun _ => true) true Try.f4.params.toList args.toList ds p := hA0
  rw [Try.params4] at hA hval
  obtain ⟨v0, vs0, d0, ds0, p0, q0, hargs, rfl, rfl, h0, r0⟩ := trodAll_cons hA
  obtain ⟨v1, vs1, d1, ds1, p1, q1, rfl, rfl, rfl, h1, r1⟩ := trodAll_cons r0
  obtain ⟨v2, vs2, d2, ds2, p2, q2, rfl, rfl, rfl, h2, r2⟩ := trodAll_cons r1
  obtain ⟨rfl, rfl, rfl⟩ := trodAll_nil r2
  obtain rfl : args = #[v0, v1, v2] := by cases args; simp_all
  obtain ⟨rfl, rfl⟩ := trodVars_none hV
  have hwt' : (DataW.weightsEach Try.prog [22, 22, 22] [d0, d1, d2]).all (· ≤ reachBytes) = true := hwt
  simp only [DataW.weightsEach, List.all_append, Bool.and_eq_true] at hwt'
  obtain ⟨a0, len0, cap0, rfl⟩ := okWide_slice Try.underlying22 (hval 0 22 v0 rfl rfl)
  obtain ⟨a1, len1, cap1, rfl⟩ := okWide_slice Try.underlying22 (hval 1 22 v1 rfl rfl)
  obtain ⟨a2, len2, cap2, rfl⟩ := okWide_slice Try.underlying22 (hval 2 22 v2 rfl rfl)
  have lt0 : ∀ x ∈ p0, x.block < W.heap.size := by obtain ⟨m, hm⟩ := h0; exact DataW.trod_lt m _ _ _ hm
  have lt1 : ∀ x ∈ p1, x.block < W.heap.size := by obtain ⟨m, hm⟩ := h1; exact DataW.trod_lt m _ _ _ hm
  have lt2 : ∀ x ∈ p2, x.block < W.heap.size := by obtain ⟨m, hm⟩ := h2; exact DataW.trod_lt m _ _ _ hm
  obtain ⟨ga, hBa, _⟩ := bytes_in h0
  obtain ⟨gb, hBb, _⟩ := bytes_in h1
  obtain ⟨gc, hBc, _⟩ := bytes_in h2
  have hna := bytes_in_small h0 hwt'.1
  obtain ⟨hla, hsa⟩ := bytes_shape h0
  obtain ⟨hlb, hsb⟩ := bytes_shape h1
  obtain ⟨hlc, hsc⟩ := bytes_shape h2
  clear hA0 hval0
  have walk : Calls Try.prog 4 #[.slice a0 len0 cap0, .slice a1 len1 cap1, .slice a2 len2 cap2] W fun e W' => e = .returned (.bool true) ∧ Below W.heap.size W W' :=
    lin_ok W a0 a1 a2 len0 len1 len2 cap0 cap1 cap2 ga gb gc hBa hBb hBc hla hlb hlc hsa hsb hsc hna
  refine walk.mono fun e W' ⟨he, bel⟩ => ?_
  subst he
  exact ⟨_, rfl, _, _, _, [], _, [], hW', trodAll_mk1 (shut_bool Try.underlying4 _), (trodAll_cons_mk (Below.trod laidOut (by kernel_rfl) (of_decide_eq_true (by kernel_rfl)) h0 bel lt0) (trodAll_cons_mk (Below.trod laidOut (by kernel_rfl) (of_decide_eq_true (by kernel_rfl)) h1 bel lt1) (trodAll_cons_mk (Below.trod laidOut (by kernel_rfl) (of_decide_eq_true (by kernel_rfl)) h2 bel lt2) trodAll_mk0))), rfl, bel.frame _, fun h => by cases h⟩

theorem over : Rows.crcLinearRow.holds Try.pinned (OpenSpec.ofChange Rows.crcLinearSpec) :=
  OpenClaim.holds_of_wide 4 Try.f4 rfl rfl rfl rfl rfl rfl rfl ⟨rfl, rfl, rfl, rfl, rfl⟩ rfl rfl rfl rfl rfl (by kernel_rfl) Try.func4 (by kernel_rfl)
    (of_decide_eq_true (by kernel_rfl)) (by unfold Func.isWrapper; first | (rw [if_pos (by decide +kernel)]; kernel_rfl) | (rw [if_neg (by decide +kernel)]; exact ⟨rfl, rfl⟩))
    (fun os started H enc _ => lifted os started H enc)

theorem crcLinear : Rows.CrcLinearSaid := over
#print axioms crcLinear
end Go.Proofs.Ytcepnjkcdkkdpaa
