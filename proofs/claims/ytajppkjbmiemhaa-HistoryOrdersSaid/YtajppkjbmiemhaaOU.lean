/- Histories: maps keyed by events, in regions that draw. -/
import Derived.Test.YtajppkjbmiemhaaOS
namespace Go.Proofs
set_option linter.unusedVariables false
set_option linter.unusedSimpArgs false
set_option linter.unusedSectionVars false
open Go Go.SX Go.RowKit Go.Hist

theorem post_edge3 {P : Program} {Q : Exit → Act → World → Prop} {all : Array Oper} {hp0 : Hp} {o : Oper} {ix : Nat} {l : List (Nat × Nat)} {ks : List W} {a : Act} {w w' : World} {v : Value} (hix : all[ix]? = some o) (hw : o.guard = none)
    (he : (execOp a.eval o).run P w = .ok (.value v) w') (htl : tails l = true) (hfz : frz hp0 = []) (hk : post P Q (.opsD all [] l :: ks) .normal (a.put o.dst v) w') : post P Q (.opsD all hp0 ((ix, 3) :: l) :: ks) .normal a w := by
  refine post_stepD3 hix (wanted_none hw) he (by rw [hfz]; exact HpRep.nil) ?_
  have hgo : ∀ a w, wpSeqD P all (post P Q ks) (HpRep []) (HpRep (frz [])) l a w → wpSeqD P all (post P Q ks) (HpRep hp0) (HpRep (frz hp0)) l a w := fun a w h => by rw [hfz]; exact seqD_tails _ l _ _ htl h
  exact hgo _ _ hk

theorem post_skip3 {P : Program} {Q : Exit → Act → World → Prop} {all : Array Oper} {hp0 : Hp} {o : Oper} {ix : Nat} {l : List (Nat × Nat)} {ks : List W} {a : Act} {w w' : World} (hix : all[ix]? = some o) (hw : o.guard = none)
    (he : (execOp a.eval o).run P w = .ok .skip w') (htl : tails l = true) (hfz : frz hp0 = []) (hk : post P Q (.opsD all [] l :: ks) .normal (a.put o.dst undef) w') : post P Q (.opsD all hp0 ((ix, 3) :: l) :: ks) .normal a w := by
  show wpSeqD P all (post P Q ks) (HpRep hp0) (HpRep (frz hp0)) ((ix, 3) :: l) a w
  simp only [wpSeqD, Nat.reduceBEq, Bool.false_eq_true, if_false, if_true]
  unfold wpOp
  simp only [hix, wanted_none hw, if_true]
  refine .inl ?_
  simp only [Oper.wp, he, Oper.upon]
  refine ⟨by rw [hfz]; exact HpRep.nil, ?_⟩
  have hgo : ∀ a w, wpSeqD P all (post P Q ks) (HpRep []) (HpRep (frz [])) l a w → wpSeqD P all (post P Q ks) (HpRep hp0) (HpRep (frz hp0)) l a w := fun a w h => by rw [hfz]; exact seqD_tails _ l _ _ htl h
  exact hgo _ _ hk

section
variable {K : Type} [DecidableEq K] {kv : K → Value} {G : K → Prop} {P : Program} {Q : Exit → Act → World → Prop} {F : Fr} {st : St} {all : Array Oper} {hp0 : Hp} {o : Oper} {ix : Nat} {l : List (Nat × Nat)} {ks : List W} {a : Act} {w : World} {t kt et : TypeId} {te : TI} {es : Array MapEntry} {clk j b : Nat} {m : K → Option Value} {k : K} {xo ko so vo : Operand} {y : SV} {dd : Nat} {mu : Bool}
theorem exec_lookK (hr : RepX F st a w) (hop : o.op = .lookup t xo ko false) (hx : opd st 0 xo = some (.mp j b)) (hk : opd st 0 ko = some y) (hy : den y = kv k) (Qk : KeyOK kv G P kt) (ht : P.underlying t = some (.map kt et)) (hte : te.ok P et) (hb : w.heap[b]? = some (.map es clk)) (hm : KM kv G es clk m) (hG : G k) :
    (execOp a.eval o).run P w = .ok (.value ((m k).getD te.zero)) w := by
  have he := hr.env.same (st' := st) rfl rfl rfl rfl
  have h1 := hm.lookup Qk ht (run_zeroValue' hte (w := w)) hb hG false
  simp only [execOp, hop, opd_sound he rfl hx, opd_sound he rfl hk, hy, Sem.run_bind, den, h1, Result.andThen_ok, Sem.run_pure]
  rfl
theorem post_lookK (hr : RepX F st a w) (hix : all[ix]? = some o) (hw : o.guard = none) (hd : o.dst = some dd) (hdn : dd < st.nt) (hks : st.ks.all (fun r => r.tj != dd) = true) (hop : o.op = .lookup t xo ko false) (hx : opd st 0 xo = some (.mp j b)) (hk : opd st 0 ko = some y) (hy : den y = kv k) (Qk : KeyOK kv G P kt) (ht : P.underlying t = some (.map kt et)) (hte : te.ok P et) (hj : st.hp[j]? = some (b, mu, .obj (.map es clk))) (hm : KM kv G es clk m) (hG : G k) {z : SV} (hz : den z = (m k).getD te.zero)
    (htl : tails l = true) (hfz : frz hp0 = []) (hn : ∀ a', RepX F { st with env := (dd, 0, z) :: st.env } a' w → post P Q (.opsD all [] l :: ks) .normal a' w) : post P Q (.opsD all hp0 ((ix, 3) :: l) :: ks) .normal a w := by
  refine post_edge3 hix hw (exec_lookK hr hop hx hk hy Qk ht hte (hr.hp j b mu _ hj) hm hG) htl hfz ?_
  rw [hd, ← hz]
  exact hn _ (hr.retK (KeepsTo.refl w []) (by simp) dd z rfl _ hr.all hdn hks)
theorem post_lookK1 (hr : RepX F st a w) (hh : HpRep hp0 w) (hix : all[ix]? = some o) (hw : o.guard = none) (hd : o.dst = some dd) (hdn : dd < st.nt) (hks : st.ks.all (fun r => r.tj != dd) = true) (hop : o.op = .lookup t xo ko false) (hx : opd st 0 xo = some (.mp j b)) (hk : opd st 0 ko = some y) (hy : den y = kv k) (Qk : KeyOK kv G P kt) (ht : P.underlying t = some (.map kt et)) (hte : te.ok P et) (hj : st.hp[j]? = some (b, mu, .obj (.map es clk))) (hm : KM kv G es clk m) (hG : G k) {z : SV} (hz : den z = (m k).getD te.zero)
    (hn : ∀ a', RepX F { st with env := (dd, 0, z) :: st.env } a' w → post P Q (.opsD all hp0 l :: ks) .normal a' w) : post P Q (.opsD all hp0 ((ix, 1) :: l) :: ks) .normal a w := by
  refine post_stepD hix (wanted_none hw) (exec_lookK hr hop hx hk hy Qk ht hte (hr.hp j b mu _ hj) hm hG) hh ?_
  rw [hd, ← hz]
  exact hn _ (hr.retK (KeepsTo.refl w []) (by simp) dd z rfl _ hr.all hdn hks)
theorem post_entK (hr : RepX F st a w) (hix : all[ix]? = some o) (hw : o.guard = none) (hd : o.dst = some dd) (hdn : dd < st.nt) (hks : st.ks.all (fun r => r.tj != dd) = true) (hop : o.op = .mapEntry t xo ko) (hx : opd st 0 xo = some (.mp j b)) (hk : opd st 0 ko = some y) (hy : den y = kv k) (Qk : KeyOK kv G P kt) (ht : P.underlying t = some (.map kt et)) (hte : te.ok P et) (hj : st.hp[j]? = some (b, true, .obj (.map es clk))) (hm : KM kv G es clk m) (hG : G k) {z : SV} (hz : den z = (m k).getD te.zero)
    (htl : tails l = true) (hfz : frz hp0 = [])
    (hn : ∀ a' w' es1 clk1 (s1 : Nat), KM kv G es1 clk1 (updK m k ((m k).getD te.zero)) → (∀ (w2 : World) (x : Value), w2.heap[b]? = some (.map es1 clk1) → ∃ es' clk', (Instr.entryStore t (.map (some b)) (goInt s1) x).run P w2 = .ok () (putBlk w2 b (.map es' clk')) ∧ KM kv G es' clk' (updK m k x)) → KeepsTo w [b] w' →
      RepX F { st with env := (dd, 0, .tu [z, .v (goInt s1)]) :: st.env, hp := st.hp.set j (b, true, .obj (.map es1 clk1)) } a' w' → post P Q (.opsD all [] l :: ks) .normal a' w') : post P Q (.opsD all hp0 ((ix, 3) :: l) :: ks) .normal a w := by
  have he := hr.env.same (st' := st) rfl rfl rfl rfl
  have hb := hr.hp j b true _ hj
  obtain ⟨s1, es1, clk1, h1, h2, h3⟩ := hm.entry Qk ht (fun u => run_zeroValue' hte (w := u)) hb hG
  refine post_edge3 (v := .tuple #[(m k).getD te.zero, goInt s1]) (w' := putBlk w b (.map es1 clk1)) hix hw ?_ htl hfz ?_
  · simp only [execOp, hop, opd_sound he rfl hx, opd_sound he rfl hk, hy, Sem.run_bind, den, h1, Result.andThen_ok, Sem.run_pure]
  · have hmm := hr.mem.store hj (new := .obj (.map es1 clk1)) (o := .map es1 clk1) (putBlk_same (lt_of_heap hb))
    have hr2 : RepX F { st with hp := st.hp.set j (b, true, .obj (.map es1 clk1)) } a (putBlk w b (.map es1 clk1)) := by
      refine Rep.of_mem (hr.env.same rfl rfl rfl rfl) ?_
      show MemRep F _ (putBlk w b _).heap.size 0 (putBlk w b _)
      rw [putBlk_size]
      exact hmm
    rw [hd]
    exact hn _ _ es1 clk1 s1 h2 h3 putBlk_keeps (hr2.retK (KeepsTo.refl _ []) (by simp) dd (.tu [z, .v (goInt s1)]) (by simp [den, denL, hz]) _ hr2.all hdn hks)
theorem post_entS (hr : RepX F st a w) (hix : all[ix]? = some o) (hw : o.guard = none) (hd : o.dst = none) (hop : o.op = .entryStore t xo so vo) (hx : opd st 0 xo = some (.mp j b)) {s1 : Nat} (hs : opd st 0 so = some (.v (goInt s1))) (hv : opd st 0 vo = some y) (hj : st.hp[j]? = some (b, true, .obj (.map es clk)))
    {M : Value → K → Option Value} (h3 : ∀ (w2 : World) (x : Value), w2.heap[b]? = some (.map es clk) → ∃ es' clk', (Instr.entryStore t (.map (some b)) (goInt s1) x).run P w2 = .ok () (putBlk w2 b (.map es' clk')) ∧ KM kv G es' clk' (M x))
    (htl : tails l = true) (hfz : frz hp0 = [])
    (hn : ∀ a' w' es1 clk1, KM kv G es1 clk1 (M (den y)) → KeepsTo w [b] w' → RepX F { st with hp := st.hp.set j (b, true, .obj (.map es1 clk1)) } a' w' → post P Q (.opsD all [] l :: ks) .normal a' w') : post P Q (.opsD all hp0 ((ix, 3) :: l) :: ks) .normal a w := by
  have he := hr.env.same (st' := st) rfl rfl rfl rfl
  have hb := hr.hp j b true _ hj
  obtain ⟨es1, clk1, h1, h2⟩ := h3 w (den y) hb
  refine post_skip3 (w' := putBlk w b (.map es1 clk1)) hix hw ?_ htl hfz ?_
  · simp only [execOp, hop, opd_sound he rfl hx, opd_sound he rfl hs, opd_sound he rfl hv, Sem.run_bind, den, h1, Result.andThen_ok, Sem.run_pure]
  · have hmm := hr.mem.store hj (new := .obj (.map es1 clk1)) (o := .map es1 clk1) (putBlk_same (lt_of_heap hb))
    rw [hd]
    refine hn _ _ es1 clk1 h2 putBlk_keeps (Rep.of_mem (hr.env.same rfl rfl rfl rfl) ?_)
    show MemRep F _ (putBlk w b _).heap.size 0 (putBlk w b _)
    rw [putBlk_size]
    exact hmm
end
end Go.Proofs
