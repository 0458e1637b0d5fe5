/- ClientAgain: the closing frame. -/
import Derived.Test.YtjkecmgobcppiaaKE2
import Derived.Test.YtjkecmgobcppiaaSxL
import Derived.Test.YtjkecmgobcppiaaRows
import Derived.WalkKit
import Derived.ProofKit
import Derived.OpenShut
import Derived.ChangeOld
import Derived.Below
import Derived.SizedLaws
namespace Go.Proofs.Ytjkecmgobcppiaa
set_option linter.unusedVariables false
set_option linter.unusedSimpArgs false
open Go Go.ChangeShapes Go.WideShapes Go.ChangeAt Go.RowKit Go.SX Go.Proofs
set_option linter.unusedVariables false

theorem own : ownKnob Try.prog.godebug = none := by kernel_rfl
theorem laidOut : laidOutB Try.prog = true := by kernel_rfl

theorem wf_i64 {x : Int} (h : (Lit.int .i64 x).wf = true) : inK x := by
  simp [Lit.wf, IntKind.min, IntKind.max, IntKind.bits, IntKind.signed] at h
  exact h

theorem act_in {H : Type} {enc : TypeId × Value → H} {w : World} {held : Bool} {v : Value} {d : DataW H} {p : List MemPlace} (h : DataW.Trod enc Try.prog w 0 (fun _ => true) held 26 v d p) : ∃ act : Act7, v.cells.toList = denL (actC act) := by
  obtain ⟨fuel, h⟩ := h
  obtain ⟨az, n, _, e1, hlen, hal, hfa⟩ := DataW.trod_struct Try.underlying26 h
  have c3 : Try.prog.cellsOf 3 = 1 := by kernel_rfl
  have c5 : Try.prog.cellsOf 5 = 1 := by kernel_rfl
  have c26 : Try.prog.cellsOf 26 = 7 := by kernel_rfl
  rw [c26] at hlen
  generalize v.cells.toList = cs at *
  match cs, hlen with
  | [v0, v1, v2, v3, v4, v5, v6], _ =>
    match az, hal with
    | [a0, a1, a2, a3, a4, a5, a6], _ =>
      have i0 := hfa 0 _ rfl
      have i1 := hfa 1 _ rfl
      have i2 := hfa 2 _ rfl
      have i3 := hfa 3 _ rfl
      have i4 := hfa 4 _ rfl
      have i5 := hfa 5 _ rfl
      have i6 := hfa 6 _ rfl
      simp [c3, c5] at i0 i1 i2 i3 i4 i5 i6
      obtain ⟨q0, f0, _, _⟩ := DataW.trod_int Try.underlying3 i0
      obtain ⟨q1, f1, _, _⟩ := DataW.trod_int Try.underlying3 i1
      obtain ⟨q2, f2, _, _⟩ := DataW.trod_int Try.underlying3 i2
      obtain ⟨q3, f3, _, _⟩ := DataW.trod_int Try.underlying3 i3
      obtain ⟨q4, f4, _, _⟩ := DataW.trod_int Try.underlying3 i4
      obtain ⟨q5, f5, _, _⟩ := DataW.trod_int Try.underlying5 i5
      obtain ⟨q6, f6, _, _⟩ := DataW.trod_int Try.underlying3 i6
      simp at f0 f1 f2 f3 f4 f5 f6
      subst f0 f1 f2 f3 f4 f5 f6
      exact ⟨⟨q0, q1, q2, q3, q4, q5, q6⟩, rfl⟩

set_option maxRecDepth 100000 in
theorem lifted (os : Os) (started : os.Started) (H : Type) (enc : TypeId × Value → H) :
    ReturnsInHanded {} Try.checked os 5 .any (Rows.clientAgainSpec.pre6 enc Try.prog Try.f5 Rows.clientAgainRow.domain false) (Rows.clientAgainSpec.post enc Try.prog Try.f5 false true false false) := by
  refine returnsInHanded_of_change_sized (C := Try.checked) own started (by kernel_rfl) Try.func5
    (ChangeSpec.witness6 (enc := enc) (C := Try.checked) false ⟨#[], #[.agg #[.int .i64 0, .int .i64 0, .int .i64 0, .int .i64 0, .int .i64 0, .int .u8 0, .int .i64 0], .int .i64 0, .int .i64 0], []⟩ 8 (by kernel_rfl) (by kernel_rfl) (by kernel_rfl) (by kernel_rfl)) ?_
  intro W base args ds gs before hval0 hW hcnd hwt _
  have hval : ∀ (j : Nat) t v, Try.f5.params[j]? = some t → args[j]? = some v → Value.okWide Try.prog W .any base t v := hval0
  have hW' := hW
  obtain ⟨p, q, hA0, hV, rfl, hfz, hnd⟩ := hW
  have hA : DataW.TrodAll enc Try.prog W 0 (fun _ => true) true Try.f5.params.toList args.toList ds p := hA0
  rw [Try.params5] at hA hval
  obtain ⟨v0, vs0, d0, ds0, p0, q0, hargs, rfl, rfl, h0, r0⟩ := trodAll_cons hA
  obtain ⟨v1, vs1, d1, ds1, p1, q1, rfl, rfl, rfl, h1, r1⟩ := trodAll_cons r0
  obtain ⟨v2, vs2, d2, ds2, p2, q2, rfl, rfl, rfl, h2, r2⟩ := trodAll_cons r1
  obtain ⟨rfl, rfl, rfl⟩ := trodAll_nil r2
  obtain rfl : args = #[v0, v1, v2] := by cases args; simp_all
  obtain ⟨rfl, rfl⟩ := trodVars_none hV
  have k0 := h0
  have lt0 : ∀ x ∈ p0, x.block < W.heap.size := by obtain ⟨m, hm⟩ := k0; exact DataW.trod_lt m _ _ _ hm
  obtain ⟨act, hact⟩ := act_in h0
  obtain ⟨vs, rfl, _⟩ := okWide_struct Try.underlying26 (hval 0 26 v0 rfl rfl)
  have hv0 : (Value.agg vs) = den (.ag (actC act)) := by
    have : vs.toList = denL (actC act) := hact
    simp only [den, ← this]
  obtain ⟨a1, rfl, rfl, rfl, w1⟩ := open_int Try.underlying3 (hval 1 3 v1 rfl rfl) h1
  obtain ⟨a2, rfl, rfl, rfl, w2⟩ := open_int Try.underlying3 (hval 2 3 v2 rfl rfl) h2
  clear hA0 hval0
  have walk : Calls Try.prog 5 #[.agg vs, .int .i64 a1, .int .i64 a2] W (TruePost W) := by
    rw [hv0]
    exact clientAgain_ok W act a1 a2 (wf_i64 w2)
  refine walk.mono fun e W' ⟨he, bel⟩ => ?_
  subst he
  exact ⟨_, rfl, _, _, _, [], _, [], hW', trodAll_mk1 (shut_bool Try.underlying4 _), (trodAll_cons_mk (Below.trod laidOut (by kernel_rfl) (of_decide_eq_true (by kernel_rfl)) k0 bel lt0) (trodAll_cons_mk (shut_int Try.underlying3 w1) (trodAll_cons_mk (shut_int Try.underlying3 w2) trodAll_mk0))), rfl, bel.frame _, fun h => by cases h⟩

theorem over : Rows.clientAgainRow.holds Try.pinned (OpenSpec.ofChange Rows.clientAgainSpec) :=
  OpenClaim.holds_of_wide 5 Try.f5 rfl rfl rfl rfl rfl rfl rfl ⟨rfl, rfl, rfl, rfl, rfl⟩ rfl rfl rfl rfl rfl (by kernel_rfl) Try.func5 (by kernel_rfl)
    (of_decide_eq_true (by kernel_rfl)) (by unfold Func.isWrapper; first | (rw [if_pos (by decide +kernel)]; kernel_rfl) | (rw [if_neg (by decide +kernel)]; exact ⟨rfl, rfl⟩))
    (fun os started H enc _ => lifted os started H enc)

theorem clientAgain : Rows.ClientAgainSaid := over
#print axioms clientAgain
end Go.Proofs.Ytjkecmgobcppiaa
