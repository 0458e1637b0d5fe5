/-
  Part R: maps keyed by pairs of ints (arrays of two), in plain regions. Holds for every program.
-/
import Derived.Test.YtajppkjbmiemhaaSxQ
namespace Go.SX
set_option linter.unusedVariables false
set_option linter.unusedSimpArgs false
set_option linter.unusedSectionVars false
open Go Go.MapKept Go.ChangeMaps Go.WideShapes Go.ChangeShapes Go.WideMaps

theorem post_skipG {P : Program} {Q : Exit → Act → World → Prop} {all : Array Oper} {o : Oper} {l : List Oper} {k : List W} {a : Act} {w w' : World} (hw : Region.wanted o (yielded all a.tmps) = true) (he : (execOp a.eval o).run P w = .ok .skip w')
    (hk : post P Q (.ops all l :: k) .normal (a.put o.dst undef) w') : post P Q (.ops all (o :: l) :: k) .normal a w := by
  show wpList P all (post P Q k) (o :: l) a w
  unfold wpList
  rw [if_pos hw]
  refine .inl ?_
  simp only [Oper.wp, he, Oper.upon]
  exact hk

section
variable {K : Type} [DecidableEq K] {kv : K → Value} {G : K → Prop} {P : Program} {Q : Exit → Act → World → Prop} {F : Fr} {st : St} {all : Array Oper} {o : Oper} {l : List Oper} {ks : List W} {a : Act} {w : World} {t kt et : TypeId} {te : TI} {es : Array MapEntry} {clk j b : Nat} {m : K → Option Value} {k : K} {xo ko vo : Operand} {y : SV} {dd : Nat} {mu : Bool}
/-- A lookup. -/
theorem post_lookP (hr : RepX F st a w) (hw : Region.wanted o (yielded all a.tmps) = true) (hd : o.dst = some dd) (hdn : dd < st.nt) (hks : st.ks.all (fun r => r.tj != dd) = true) {ok : Bool} (hop : o.op = .lookup t xo ko ok) (hx : opd st 0 xo = some (.mp j b)) (hk : opd st 0 ko = some y) (hy : den y = kv k) (Qk : KeyOK kv G P kt) (ht : P.underlying t = some (.map kt et)) (hte : te.ok P et)
    (hj : st.hp[j]? = some (b, mu, .obj (.map es clk))) (hm : KM kv G es clk m) (hG : G k) {z : SV} (hz : den z = if ok then .tuple #[(m k).getD te.zero, .bool (m k).isSome] else (m k).getD te.zero)
    (hn : ∀ a', RepX F { st with env := (dd, 0, z) :: st.env } a' w → post P Q (.ops all l :: ks) .normal a' w) : post P Q (.ops all (o :: l) :: ks) .normal a w := by
  have he := hr.env.same (st' := st) rfl rfl rfl rfl
  have h1 := hm.lookup Qk ht (run_zeroValue' hte (w := w)) (hr.hp j b mu _ hj) hG ok
  refine post_stepG (v := den z) (w' := w) hw ?_ ?_
  · simp only [execOp, hop, opd_sound he rfl hx, opd_sound he rfl hk, hy, Sem.run_bind, den, h1, Result.andThen_ok, Sem.run_pure, hz]
  · rw [hd]
    exact hn _ (hr.retK (KeepsTo.refl w []) (by simp) dd z rfl _ hr.all hdn hks)

/-- A store. -/
theorem post_updP (hr : RepX F st a w) (hw : Region.wanted o (yielded all a.tmps) = true) (hd : o.dst = none) (hop : o.op = .mapUpdate t xo ko vo) (hx : opd st 0 xo = some (.mp j b)) (hk : opd st 0 ko = some y) (hy : den y = kv k) {x : SV} (hv : opd st 0 vo = some x) (Qk : KeyOK kv G P kt) (ht : P.underlying t = some (.map kt et))
    (hj : st.hp[j]? = some (b, true, .obj (.map es clk))) (hm : KM kv G es clk m) (hG : G k)
    (hn : ∀ a' w' es1 clk1, KM kv G es1 clk1 (updK m k (den x)) → KeepsTo w [b] w' → RepX F { st with hp := st.hp.set j (b, true, .obj (.map es1 clk1)) } a' w' → post P Q (.ops all l :: ks) .normal a' w') : post P Q (.ops all (o :: l) :: ks) .normal a w := by
  have he := hr.env.same (st' := st) rfl rfl rfl rfl
  have hb := hr.hp j b true _ hj
  obtain ⟨es1, clk1, h1, h2⟩ := hm.update Qk ht hb hG (den x)
  refine post_skipG (w' := putBlk w b (.map es1 clk1)) hw ?_ ?_
  · simp only [execOp, hop, opd_sound he rfl hx, opd_sound he rfl hk, hy, opd_sound he rfl hv, Sem.run_bind, den, h1, Result.andThen_ok, Sem.run_pure]
  · have hmm := hr.mem.store hj (new := .obj (.map es1 clk1)) (o := .map es1 clk1) (putBlk_same (lt_of_heap hb))
    rw [hd]
    refine hn _ _ es1 clk1 h2 putBlk_keeps (Rep.of_mem (hr.env.same rfl rfl rfl rfl) ?_)
    show MemRep F _ (putBlk w b _).heap.size 0 (putBlk w b _)
    rw [putBlk_size]
    exact hmm

omit [DecidableEq K] in
/-- A map that was just made. -/
theorem KM.ofNew (hm : IMap es clk (fun _ => none)) : KM kv G es clk (fun _ => none) := by
  obtain ⟨l, rfl, h1, h2, h3, h4⟩ := hm
  have hl : l = [] := by
    rcases l with _ | ⟨⟨k, x, n⟩, l⟩
    · rfl
    · have := (h4 k x).2 ⟨n, List.mem_cons_self⟩
      simp at this
  subst hl
  exact ⟨[], rfl, by simp, by simp, by simp, by simp, by simp⟩
end

/-! ### pairs of ints as keys -/
def kv2 (p : Int × Int) : Value := .agg #[.int .i64 p.1, .int .i64 p.2]
def In2 (p : Int × Int) : Prop := inK p.1 ∧ inK p.2
theorem pairOK {P : Program} {k e : TypeId} (hu : P.underlying k = some (.array 2 e)) (he : P.underlying e = some (.int .i64)) (hp : P.plainKey e = true) (ce : P.cellsOf e = 1) (ck : P.cellsOf k = 2) (hT : P.keyType k = true) (hs : 1 < P.types.size) : KeyOK kv2 In2 P k := by
  refine ⟨ArrKey.law ⟨hu, hp, ce, ck⟩, fun p h => ?_, fun a b h => ?_⟩
  · obtain ⟨n, hn⟩ : ∃ n, P.types.size = n + 1 := ⟨P.types.size - 1, by omega⟩
    unfold keyOf
    rw [hu]
    simp only [hT, Bool.true_and]
    have hF : (kv2 p).formed P k = true := by simp [kv2, Value.formed, hu, ck]
    rw [if_pos hF, hn]
    obtain ⟨h1, h2⟩ := h
    have w1 : (Lit.int .i64 p.1).wf = true := by
      unfold inK at h1
      simp [Lit.wf, IntKind.min, IntKind.max, IntKind.bits, IntKind.signed]
      exact h1
    have w2 : (Lit.int .i64 p.2).wf = true := by
      unfold inK at h2
      simp [Lit.wf, IntKind.min, IntKind.max, IntKind.bits, IntKind.signed]
      exact h2
    have hc : (kv2 p).cells.toList = [.int .i64 p.1, .int .i64 p.2] := by simp [kv2, Value.cells]
    rw [hc]
    obtain ⟨n', rfl⟩ : ∃ n', n = n' + 1 := ⟨n - 1, by omega⟩
    simp [Program.keyLits, hu, he, ce, ck, w1, w2, List.range, List.range.loop]
  · obtain ⟨a1, a2⟩ := a
    obtain ⟨b1, b2⟩ := b
    simp [kv2] at h
    simp [h]
end Go.SX
