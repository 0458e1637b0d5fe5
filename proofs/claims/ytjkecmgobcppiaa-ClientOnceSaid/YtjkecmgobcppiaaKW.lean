/- ClientOnce: the closing frame. -/
import Derived.Test.YtjkecmgobcppiaaKU
import Derived.Test.YtjkecmgobcppiaaKV
import Derived.Test.YtjkecmgobcppiaaSxL
import Derived.Test.YtjkecmgobcppiaaRows
import Derived.WalkKit
import Derived.ProofKit
import Derived.OpenShut
import Derived.ChangeOld
import Derived.Below
import Derived.SizedLaws
namespace Go.Proofs.Ytjkecmgobcppiaa
set_option linter.unusedVariables false
set_option linter.unusedSimpArgs false
open Go Go.ChangeShapes Go.WideShapes Go.ChangeAt Go.RowKit Go.SX Go.Proofs
set_option linter.unusedVariables false

theorem own : ownKnob Try.prog.godebug = none := by kernel_rfl
theorem laidOut : laidOutB Try.prog = true := by kernel_rfl

theorem num_row {H : Type} {enc : TypeId × Value → H} {w : World} {held : Bool} (fuel : Nat) (cs : List Value) (x : DataW H × List MemPlace) (h : DataW.trod enc Try.prog w 0 (fun _ => true) held fuel 3 cs = some x) :
    ∃ l, cs = denL l ∧ l.length = 1 ∧ ∃ y : Int, l = [.v (.int .i64 y)] := by
  obtain ⟨n, e, _, wf⟩ := DataW.trod_int Try.underlying3 h
  subst e
  exact ⟨[.v (.int .i64 n)], rfl, rfl, n, rfl⟩

theorem byte_row {H : Type} {enc : TypeId × Value → H} {w : World} {held : Bool} (fuel : Nat) (cs : List Value) (x : DataW H × List MemPlace) (h : DataW.trod enc Try.prog w 0 (fun _ => true) held fuel 5 cs = some x) :
    ∃ l, cs = denL l ∧ l.length = 1 ∧ ∃ y : Int, l = [.v (.int .u8 y)] := by
  obtain ⟨n, e, _, wf⟩ := DataW.trod_int Try.underlying5 h
  subst e
  exact ⟨[.v (.int .u8 n)], rfl, rfl, n, rfl⟩

theorem nums_in {H : Type} {enc : TypeId × Value → H} {w : World} {held : Bool} {fuel : Nat} {v : Value} {x : DataW H × List MemPlace} (h : DataW.trod enc Try.prog w 0 (fun _ => true) held fuel 33 [v] = some x) (hw : (x.1.weights Try.prog 33).all (· ≤ reachBytes) = true) :
    ∃ a n cap, v = .slice a n cap ∧ (∃ g, Ints w v n g) ∧ n ≤ 1000000000000000 := by
  rcases Go.Deep.open_slice Try.underlying33 h with ⟨hcs, _⟩ | ⟨a, len, cap, _, _, _, _, hcs, _⟩
  · cases hcs
    exact ⟨none, 0, 0, rfl, ⟨fun _ => 0, .inl ⟨rfl, _, _, rfl⟩⟩, by omega⟩
  · cases hcs
    refine ⟨_, _, _, rfl, ?_⟩
    rcases open_rows Try.underlying33 (by kernel_rfl) (by decide) (fun l => ∃ y : Int, l = [.v (.int .i64 y)]) num_row (d := x.1) (p := x.2) ⟨fuel, h⟩ hw rfl with ⟨rfl, rfl⟩ | ⟨b, o0, u, fz, row, e, hl, hpos, hrep, hgood, hby⟩
    · exact ⟨⟨fun _ => 0, .inl ⟨rfl, _, _, rfl⟩⟩, by omega⟩
    · cases e
      have hb : Try.prog.bytesOf 3 = 8 := by kernel_rfl
      rw [hb] at hby
      simp only [reachBytes] at hby
      refine ⟨?_, by omega⟩
      rcases Nat.eq_zero_or_pos len with rfl | hn
      · exact ⟨fun _ => 0, .inl ⟨rfl, _, _, rfl⟩⟩
      · refine ⟨fun j => if h : j < cap then (hgood j h).choose else 0, .inr ⟨hn, b, o0, cap, cap, u, fz, rfl, hl, rep_arr_sub hrep (Nat.le_refl _) fun j hj => ?_⟩⟩
        simp only [dif_pos hj]
        exact congrArg denL (hgood j hj).choose_spec

theorem bytes_in {H : Type} {enc : TypeId × Value → H} {w : World} {held : Bool} {fuel : Nat} {v : Value} {x : DataW H × List MemPlace} (h : DataW.trod enc Try.prog w 0 (fun _ => true) held fuel 34 [v] = some x) (hw : (x.1.weights Try.prog 34).all (· ≤ reachBytes) = true) :
    ∃ a n cap, v = .slice a n cap ∧ (∃ g, Byts (fun _ => True) w v n g) ∧ (∀ c, v = .slice none n c → c = 0) ∧ n ≤ 1000000000000000 := by
  rcases Go.Deep.open_slice Try.underlying34 h with ⟨hcs, _⟩ | ⟨a, len, cap, _, _, _, _, hcs, _⟩
  · cases hcs
    exact ⟨none, 0, 0, rfl, ⟨fun _ => 0, .inl ⟨rfl, _, _, rfl⟩⟩, (fun c e => by cases e; rfl), by omega⟩
  · cases hcs
    refine ⟨_, _, _, rfl, ?_⟩
    rcases open_rows Try.underlying34 (by kernel_rfl) (by decide) (fun l => ∃ y : Int, l = [.v (.int .u8 y)]) byte_row (d := x.1) (p := x.2) ⟨fuel, h⟩ hw rfl with ⟨rfl, rfl⟩ | ⟨b, o0, u, fz, row, e, hl, hpos, hrep, hgood, hby⟩
    · exact ⟨⟨fun _ => 0, .inl ⟨rfl, _, _, rfl⟩⟩, (fun c e => by cases e), by omega⟩
    · cases e
      have hb : Try.prog.bytesOf 5 = 1 := by kernel_rfl
      rw [hb] at hby
      simp only [reachBytes] at hby
      refine ⟨?_, (fun c e => by cases e), by omega⟩
      rcases Nat.eq_zero_or_pos len with rfl | hn
      · exact ⟨fun _ => 0, .inl ⟨rfl, _, _, rfl⟩⟩
      · refine ⟨fun j => if h : j < cap then (hgood j h).choose else 0, .inr ⟨hn, b, o0, cap, cap, u, fz, trivial, rfl, hl, rep_arr_sub hrep (Nat.le_refl _) fun j hj => ?_⟩⟩
        simp only [dif_pos hj]
        exact congrArg denL (hgood j hj).choose_spec

/-- An operation that came in. -/
def GoodOp (w : World) (o : Op16) : Prop :=
  (∃ a n c, o.margs = .slice a n c ∧ (∃ g, Ints w o.margs n g) ∧ n ≤ 1000000000000000) ∧ (∃ a n c, o.mdata = .slice a n c ∧ (∃ g, Byts (fun _ => True) w o.mdata n g) ∧ (∀ c, o.mdata = .slice none n c → c = 0) ∧ n ≤ 1000000000000000)

theorem op_row {H : Type} {enc : TypeId × Value → H} {w : World} {held : Bool} (fuel : Nat) (cs : List Value) (x : DataW H × List MemPlace) (h : DataW.trod enc Try.prog w 0 (fun _ => true) held fuel 38 cs = some x) (hw : (x.1.weights Try.prog 38).all (· ≤ reachBytes) = true) :
    ∃ l, cs = denL l ∧ l.length = 16 ∧ ∃ o : Op16, l = opC o ∧ GoodOp w o := by
  obtain ⟨xs, n, _, rfl, hlen, hxl, hf⟩ := DataW.trod_struct Try.underlying38 h
  have hC : Try.prog.cellsOf 38 = 16 := by kernel_rfl
  have c3 : Try.prog.cellsOf 3 = 1 := by kernel_rfl
  have c5 : Try.prog.cellsOf 5 = 1 := by kernel_rfl
  have c26 : Try.prog.cellsOf 26 = 7 := by kernel_rfl
  have c36 : Try.prog.cellsOf 36 = 6 := by kernel_rfl
  have c33 : Try.prog.cellsOf 33 = 1 := by kernel_rfl
  have c34 : Try.prog.cellsOf 34 = 1 := by kernel_rfl
  rw [hC] at hlen
  match cs, hlen with
  | [v0, v1, v2, v3, v4, v5, v6, v7, v8, v9, v10, v11, v12, v13, v14, v15], _ =>
    match xs, hxl with
    | [y0, y1, y2, y3, y4], _ =>
      have h0 := hf 0 _ rfl
      have h1 := hf 1 _ rfl
      have h2 := hf 2 _ rfl
      have h3 := hf 3 _ rfl
      have h4 := hf 4 _ rfl
      simp [c3, c26, c36] at h0 h1 h2 h3 h4
      obtain ⟨n0, e0, _, _⟩ := DataW.trod_int Try.underlying3 h0
      obtain ⟨n2, e2, _, _⟩ := DataW.trod_int Try.underlying3 h2
      obtain ⟨n4, e4, _, _⟩ := DataW.trod_int Try.underlying3 h4
      simp at e0 e2 e4
      obtain ⟨az, na, _, e1, _, hal, hfa⟩ := DataW.trod_struct Try.underlying26 h1
      obtain ⟨ms, nm, _, e3, _, hml, hfm⟩ := DataW.trod_struct Try.underlying36 h3
      match az, hal with
      | [a0, a1, a2, a3, a4, a5, a6], _ =>
        match ms, hml with
        | [m0, m1, m2, m3, m4, m5], _ =>
          have i0 := hfa 0 _ rfl
          have i1 := hfa 1 _ rfl
          have i2 := hfa 2 _ rfl
          have i3 := hfa 3 _ rfl
          have i4 := hfa 4 _ rfl
          have i5 := hfa 5 _ rfl
          have i6 := hfa 6 _ rfl
          simp [c3, c5] at i0 i1 i2 i3 i4 i5 i6
          obtain ⟨q0, f0, _, _⟩ := DataW.trod_int Try.underlying3 i0
          obtain ⟨q1, f1, _, _⟩ := DataW.trod_int Try.underlying3 i1
          obtain ⟨q2, f2, _, _⟩ := DataW.trod_int Try.underlying3 i2
          obtain ⟨q3, f3, _, _⟩ := DataW.trod_int Try.underlying3 i3
          obtain ⟨q4, f4, _, _⟩ := DataW.trod_int Try.underlying3 i4
          obtain ⟨q5, f5, _, _⟩ := DataW.trod_int Try.underlying5 i5
          obtain ⟨q6, f6, _, _⟩ := DataW.trod_int Try.underlying3 i6
          have j0 := hfm 0 _ rfl
          have j1 := hfm 1 _ rfl
          have j2 := hfm 2 _ rfl
          have j3 := hfm 3 _ rfl
          have j4 := hfm 4 _ rfl
          have j5 := hfm 5 _ rfl
          simp [c3, c33, c34] at j0 j1 j2 j3 j4 j5
          obtain ⟨r0, g0, _, _⟩ := DataW.trod_int Try.underlying3 j0
          obtain ⟨r1, g1, _, _⟩ := DataW.trod_int Try.underlying3 j1
          obtain ⟨r2, g2, _, _⟩ := DataW.trod_int Try.underlying3 j2
          obtain ⟨r3, g3, _, _⟩ := DataW.trod_int Try.underlying3 j3
          simp at f0 f1 f2 f3 f4 f5 f6 g0 g1 g2 g3
          subst e0 e2 e4 f0 f1 f2 f3 f4 f5 f6 g0 g1 g2 g3
          have hw3 : (y3.1.weights Try.prog 36).all (· ≤ reachBytes) = true := by
            simp only [DataW.weights, Try.underlying38, List.map_cons, List.map_nil, DataW.weightsEach, List.all_append, Bool.and_eq_true] at hw
            simp_all
          rw [e3] at hw3
          have hw45 : (m4.1.weights Try.prog 33).all (· ≤ reachBytes) = true ∧ (m5.1.weights Try.prog 34).all (· ≤ reachBytes) = true := by
            simp only [DataW.weights, Try.underlying36, List.map_cons, List.map_nil, DataW.weightsEach, List.all_append, Bool.and_eq_true] at hw3
            simp_all
          exact ⟨_, rfl, rfl, ⟨n0, ⟨q0, q1, q2, q3, q4, q5, q6⟩, n2, r0, r1, r2, r3, v13, v14, n4⟩, rfl, nums_in j4 hw45.1, bytes_in j5 hw45.2⟩

def op0 : Op16 := ⟨0, ⟨0, 0, 0, 0, 0, 0, 0⟩, 0, 0, 0, 0, 0, .slice none 0 0, .slice none 0 0, 0⟩

theorem good0 (w : World) : GoodOp w op0 := ⟨⟨none, 0, 0, rfl, ⟨fun _ => 0, .inl ⟨rfl, _, _, rfl⟩⟩, by omega⟩, ⟨none, 0, 0, rfl, ⟨fun _ => 0, .inl ⟨rfl, _, _, rfl⟩⟩, (fun c e => by cases e; rfl), by omega⟩⟩

/-- Operations that came in. -/
theorem ops_of (w : World) (n : Nat) (hn : n ≤ 1000000000000000) (o : Nat → Op16) (ho : ∀ j, GoodOp w (o j)) :
    ∃ L : OpsK, L.n = n ∧ L.o = o ∧ (∀ k, k < L.n → ∃ ga, Ints w (L.o k).margs (L.na k) ga) ∧ (∀ k, k < L.n → ∃ gd, Byts (fun _ => True) w (L.o k).mdata (L.nd k) gd) ∧ ∀ k c, k < L.n → (L.o k).mdata = .slice none (L.nd k) c → c = 0 := by
  refine ⟨⟨n, o, fun j => (ho j).1.choose, fun j => (ho j).1.choose_spec.choose, fun j => (ho j).1.choose_spec.choose_spec.choose, fun j => (ho j).2.choose, fun j => (ho j).2.choose_spec.choose, fun j => (ho j).2.choose_spec.choose_spec.choose, fun j => (ho j).1.choose_spec.choose_spec.choose_spec.1, fun j => (ho j).2.choose_spec.choose_spec.choose_spec.1, fun j => (ho j).1.choose_spec.choose_spec.choose_spec.2.2, fun j => (ho j).2.choose_spec.choose_spec.choose_spec.2.2.2, hn⟩, rfl, rfl,
    fun k _ => (ho k).1.choose_spec.choose_spec.choose_spec.2.1, fun k _ => (ho k).2.choose_spec.choose_spec.choose_spec.2.1, fun k c _ => (ho k).2.choose_spec.choose_spec.choose_spec.2.2.1 c⟩

set_option maxRecDepth 100000 in
theorem lifted (os : Os) (started : os.Started) (H : Type) (enc : TypeId × Value → H) :
    ReturnsInHanded {} Try.checked os 3 .any (Rows.clientOnceSpec.pre6 enc Try.prog Try.f3 Rows.clientOnceRow.domain false) (Rows.clientOnceSpec.post enc Try.prog Try.f3 false true false false) := by
  refine returnsInHanded_of_change_sized (C := Try.checked) own started (by kernel_rfl) Try.func3
    (ChangeSpec.witness6 (enc := enc) (C := Try.checked) false ⟨#[], #[.slice none 0 0], []⟩ 8 (by kernel_rfl) (by kernel_rfl) (by kernel_rfl) (by kernel_rfl)) ?_
  intro W base args ds gs before hval0 hW hcnd hwt _
  have hval : ∀ (j : Nat) t v, Try.f3.params[j]? = some t → args[j]? = some v → Value.okWide Try.prog W .any base t v := hval0
  have hW' := hW
  obtain ⟨p, q, hA0, hV, rfl, hfz, hnd⟩ := hW
  have hA : DataW.TrodAll enc Try.prog W 0 (fun _ => true) true Try.f3.params.toList args.toList ds p := hA0
  rw [Try.params3] at hA hval
  obtain ⟨v0, vs0, d0, ds0, p0, q0, hargs, rfl, rfl, h0, r0⟩ := trodAll_cons hA
  obtain ⟨rfl, rfl, rfl⟩ := trodAll_nil r0
  obtain rfl : args = #[v0] := by cases args; simp_all
  obtain ⟨rfl, rfl⟩ := trodVars_none hV
  have hwt' : (DataW.weightsEach Try.prog [22] [d0]).all (· ≤ reachBytes) = true := hwt
  simp only [DataW.weightsEach, List.all_append, Bool.and_eq_true] at hwt'
  obtain ⟨a0, len0, cap0, rfl⟩ := okWide_slice Try.underlying22 (hval 0 22 v0 rfl rfl)
  have k0 := h0
  have lt0 : ∀ x ∈ p0, x.block < W.heap.size := by obtain ⟨m, hm⟩ := k0; exact DataW.trod_lt m _ _ _ hm
  have o0 := open_rowsW Try.underlying22 (by kernel_rfl) (by decide) (fun l => ∃ o : Op16, l = opC o ∧ GoodOp W o) op_row h0 hwt'.1 rfl
  clear hA0 hval0
  have walk : Calls Try.prog 3 #[.slice a0 len0 cap0] W (TruePost W) := by
    rcases o0 with ⟨rfl, rfl⟩ | ⟨b, o0, u, fz, row, rfl, hl, hpos, hrep, hgood, hby⟩
    · obtain ⟨L, e1, _⟩ := ops_of W 0 (by omega) (fun _ => op0) (fun _ => good0 W)
      exact once_nil W L a0 0 e1
    · have hb : Try.prog.bytesOf 38 = 160 := by kernel_rfl
      rw [hb] at hby
      simp only [reachBytes] at hby
      have hf : ∃ f : Nat → Op16, (∀ j, j < cap0 → row j = opC (f j)) ∧ ∀ j, GoodOp W (f j) := by
        refine ⟨fun j => if h : j < cap0 then (hgood j h).choose else op0, fun j hj => ?_, fun j => ?_⟩
        · simp only [dif_pos hj]
          exact (hgood j hj).choose_spec.1
        · by_cases hj : j < cap0
          · simp only [dif_pos hj]
            exact (hgood j hj).choose_spec.2
          · simp only [dif_neg hj]
            exact good0 W
      obtain ⟨f, hf1, hf2⟩ := hf
      obtain ⟨L, e1, e2, l1, l2, l3⟩ := ops_of W len0 (by omega) f hf2
      rcases Nat.eq_zero_or_pos len0 with rfl | hn
      · exact once_nil W L _ cap0 e1
      · have := once_some W L b o0 cap0 cap0 u fz (by omega) (by omega) (rep_arr_sub hrep (Nat.le_refl _) fun j hj => by rw [hf1 j hj, e2]) l1 l2 l3
        rw [e1] at this
        simpa [denL, den] using this
  refine walk.mono fun e W' ⟨he, bel⟩ => ?_
  subst he
  exact ⟨_, rfl, _, _, _, [], _, [], hW', trodAll_mk1 (shut_bool Try.underlying4 _), (trodAll_cons_mk (Below.trod laidOut (by kernel_rfl) (of_decide_eq_true (by kernel_rfl)) k0 bel lt0) trodAll_mk0), rfl, bel.frame _, fun h => by cases h⟩

theorem over : Rows.clientOnceRow.holds Try.pinned (OpenSpec.ofChange Rows.clientOnceSpec) :=
  OpenClaim.holds_of_wide 3 Try.f3 rfl rfl rfl rfl rfl rfl rfl ⟨rfl, rfl, rfl, rfl, rfl⟩ rfl rfl rfl rfl rfl (by kernel_rfl) Try.func3 (by kernel_rfl)
    (of_decide_eq_true (by kernel_rfl)) (by unfold Func.isWrapper; first | (rw [if_pos (by decide +kernel)]; kernel_rfl) | (rw [if_neg (by decide +kernel)]; exact ⟨rfl, rfl⟩))
    (fun os started H enc _ => lifted os started H enc)

theorem clientOnce : Rows.ClientOnceSaid := over
#print axioms clientOnce
end Go.Proofs.Ytjkecmgobcppiaa
