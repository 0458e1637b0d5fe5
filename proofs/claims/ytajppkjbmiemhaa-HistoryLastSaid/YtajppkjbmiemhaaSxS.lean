/-
  Part S: loops over maps. Holds for every program.
-/
import Derived.Test.YtajppkjbmiemhaaSxR
import Derived.Maps.RangeRun
namespace Go.SX
set_option linter.unusedVariables false
set_option linter.unusedSimpArgs false
set_option linter.unusedSectionVars false
open Go Go.MapKept Go.RowKit

variable {P : Program} {Q : Exit → Act → World → Prop} {F : Fr} {st : St} {all : Array Oper} {o : Oper} {l : List Oper} {ks : List W} {a : Act} {w : World} {t kt et : TypeId} {es : Array MapEntry} {clk j b : Nat} {xo : Operand} {dd : Nat} {mu : Bool}

/-- The start of a loop over a map. -/
theorem post_rangeP (hr : RepX F st a w) (hw : Region.wanted o (yielded all a.tmps) = true) (hd : o.dst = some dd) (hdn : dd < st.nt) (hks : st.ks.all (fun r => r.tj != dd) = true) (hop : o.op = .range t xo) (hx : opd st 0 xo = some (.mp j b)) (ht : P.underlying t = some (.map kt et))
    (hj : st.hp[j]? = some (b, mu, .obj (.map es clk))) (H : Hp) (hH : ∀ w' r, w.heap.size ≤ r → Below w.heap.size w w' → w'.heap[r]? = some (.mapIter (some b) clk #[] clk) → HpAll F w' (H ++ [(r, true, .obj (.mapIter (some b) clk #[] clk))]))
    (hn : ∀ a' w' r, w.heap.size ≤ r → Below w.heap.size w w' → w'.heap[r]? = some (.mapIter (some b) clk #[] clk) → RepX F { st with env := (dd, 0, .ptr H.length r 0) :: st.env, hp := H ++ [(r, true, .obj (.mapIter (some b) clk #[] clk))] } a' w' → post P Q (.ops all l :: ks) .normal a' w') : post P Q (.ops all (o :: l) :: ks) .normal a w := by
  have he := hr.env.same (st' := st) rfl rfl rfl rfl
  have hb := hr.hp j b mu _ hj
  have h1 := run_range_map (P := P) w t kt et b es clk ht hb
  have hk : Below w.heap.size w (w.alloc (.mapIter (some b) clk #[] clk)) := ⟨rfl, rfl, rfl, by show w.heap.size ≤ (w.heap.push _).size; simp, fun k hk => SX.heap_alloc_lt hk⟩
  have hnew : (w.alloc (.mapIter (some b) clk #[] clk)).heap[w.heap.size]? = some (.mapIter (some b) clk #[] clk) := SX.heap_alloc_new
  refine post_stepG (v := den (.ptr H.length w.heap.size 0)) (w' := w.alloc (.mapIter (some b) clk #[] clk)) hw ?_ ?_
  · simp only [execOp, hop, opd_sound he rfl hx, Sem.run_bind, den, h1, Result.andThen_ok, Sem.run_pure]
  · rw [hd]
    exact hn _ _ w.heap.size (Nat.le_refl _) hk hnew (hr.retK (KeepsTo.below hk []) (by simp) dd (.ptr H.length w.heap.size 0) rfl _ (hH _ _ (Nat.le_refl _) hk hnew) hdn hks)

theorem drew_keeps (w : World) : KeepsTo w [] w.drew := ⟨Nat.le_refl _, rfl, rfl, rfl, Nat.le_refl _, fun _ _ _ => rfl⟩

/-- A round, or the end. -/
theorem post_nextP (hr : RepX F st a w) (hw : Region.wanted o (yielded all a.tmps) = true) (hd : o.dst = some dd) (hdn : dd < st.nt) (hks : st.ks.all (fun r => r.tj != dd) = true) (hop : o.op = .next xo false) {i r since c0 : Nat} {seen : Array Nat} (hx : opd st 0 xo = some (.ptr i r 0))
    (hi : st.hp[i]? = some (r, true, .obj (.mapIter (some b) since seen c0))) (hj : st.hp[j]? = some (b, mu, .obj (.map es clk))) (hold : ∀ x ∈ es.toList, x.born < since) (hsc : since ≤ c0)
    (h0 : ∀ a', (∀ x ∈ es.toList, seen.contains x.born = true) → RepX F { st with env := (dd, 0, .tu [.v (.bool false)]) :: st.env } a' w → post P Q (.ops all l :: ks) .normal a' w)
    (h1 : ∀ a' w' e, e ∈ es.toList → seen.contains e.born = false → (leftOf es (seen.push e.born)).size < (leftOf es seen).size → KeepsTo w [r] w' → RepX F { st with env := (dd, 0, .tu [.v (.bool true), .v e.key, .v e.val]) :: st.env, hp := st.hp.set i (r, true, .obj (.mapIter (some b) since (seen.push e.born) clk)) } a' w' → post P Q (.ops all l :: ks) .normal a' w') :
    post P Q (.ops all (o :: l) :: ks) .normal a w := by
  have he := hr.env.same (st' := st) rfl rfl rfl rfl
  have hb := hr.hp j b mu _ hj
  have hir := hr.hp i r true _ hi
  rcases run_next_at (P := P) w o.type r b since c0 seen es clk hir hb hold hsc with ⟨hz, hrun⟩ | ⟨e, hel, w1, hw1, hrun⟩
  · refine post_stepG (v := den (.tu [.v (.bool false)])) (w' := w) hw ?_ ?_
    · simp only [execOp, hop, opd_sound he rfl hx, Sem.run_bind, den, hrun, Result.andThen_ok, Sem.run_pure]
      rfl
    · rw [hd]
      exact h0 _ (all_seen es seen hz) (hr.retK (KeepsTo.refl w []) (by simp) dd _ rfl _ hr.all hdn hks)
  · obtain ⟨hm, hs⟩ := mem_left hel
    have hlt := left_shrinks es seen e hel
    have hr1 : RepX F st a w1 := by
      rcases hw1 with rfl | rfl
      · exact hr
      · exact hr.drew
    have hmm := hr1.mem.store hi (new := .obj (.mapIter (some b) since (seen.push e.born) clk)) (o := .mapIter (some b) since (seen.push e.born) clk) (putBlk_same (lt_of_heap (hr1.hp i r true _ hi)))
    have hr2 : RepX F { st with hp := st.hp.set i (r, true, .obj (.mapIter (some b) since (seen.push e.born) clk)) } a (putBlk w1 r (.mapIter (some b) since (seen.push e.born) clk)) := by
      refine Rep.of_mem (hr1.env.same rfl rfl rfl rfl) ?_
      show MemRep F _ (putBlk w1 r _).heap.size 0 (putBlk w1 r _)
      rw [putBlk_size]
      exact hmm
    refine post_stepG (v := den (.tu [.v (.bool true), .v e.key, .v e.val])) (w' := putBlk w1 r (.mapIter (some b) since (seen.push e.born) clk)) hw ?_ ?_
    · simp only [execOp, hop, opd_sound he rfl hx, Sem.run_bind, den, hrun, Result.andThen_ok, Sem.run_pure]
      rfl
    · rw [hd]
      have hk2 : KeepsTo w [r] (putBlk w1 r (.mapIter (some b) since (seen.push e.born) clk)) := by
        rcases hw1 with rfl | rfl
        · exact putBlk_keeps
        · have h := putBlk_keeps (w := w.drew) (b := r) (o := .mapIter (some b) since (seen.push e.born) clk)
          exact ⟨h.hB, h.os, h.tape, h.output, h.size, h.block⟩
      exact h1 _ _ e hm hs hlt hk2 (hr2.retK (KeepsTo.refl _ []) (by simp) dd _ rfl _ hr2.all hdn hks)

/-- The key and the value of a round. -/
theorem post_entryP (hr : RepX F st a w) (hw : Region.wanted o (yielded all a.tmps) = true) (hd : o.dst = some dd) (hdn : dd < st.nt) (hks : st.ks.all (fun r => r.tj != dd) = true) (hop : o.op = .entry xo) {i r since : Nat} {seen : Array Nat} {e : MapEntry} (hx : opd st 0 xo = some (.ptr i r 0))
    (hi : st.hp[i]? = some (r, true, .obj (.mapIter (some b) since (seen.push e.born) clk))) (hj : st.hp[j]? = some (b, mu, .obj (.map es clk))) (he : e ∈ es.toList) (hnd : (es.toList.map (·.born)).Nodup) {y z : SV} (hy : den y = e.key) (hz : den z = e.val)
    (hn : ∀ a', RepX F { st with env := (dd, 0, .tu [y, z]) :: st.env } a' w → post P Q (.ops all l :: ks) .normal a' w) : post P Q (.ops all (o :: l) :: ks) .normal a w := by
  have hen := hr.env.same (st' := st) rfl rfl rfl rfl
  have hb := hr.hp j b mu _ hj
  have hir := hr.hp i r true _ hi
  have hrun := run_entry_at (P := P) w r b since seen es clk e hir hb he hnd
  refine post_stepG (v := den (.tu [y, z])) (w' := w) hw ?_ ?_
  · simp only [execOp, hop, opd_sound hen rfl hx, Sem.run_bind, den, hrun, Result.andThen_ok, Sem.run_pure, denL, hy, hz]
  · rw [hd]
    exact hn _ (hr.retK (KeepsTo.refl w []) (by simp) dd (.tu [y, z]) rfl _ hr.all hdn hks)

section
variable {K : Type} {kv : K → Value} {G : K → Prop} {m : K → Option Value}
/-- What a map keyed by things holds, entry by entry. -/
theorem KM.entries (h : KM kv G es clk m) : (∀ e ∈ es.toList, e.born < clk ∧ ∃ k, G k ∧ e.key = kv k ∧ m k = some e.val) ∧ (es.toList.map (·.born)).Nodup ∧ ∀ k v, m k = some v → ∃ e ∈ es.toList, e.key = kv k ∧ e.val = v := by
  obtain ⟨l, rfl, h1, h2, h3, h4, h5⟩ := h
  refine ⟨fun e he => ?_, ?_, fun k v hk => ?_⟩
  · simp only [List.mem_map] at he
    obtain ⟨⟨k, x, n⟩, hm, rfl⟩ := he
    exact ⟨h4 _ hm, k, h1 _ hm, rfl, (h5 k x).2 ⟨n, hm⟩⟩
  · simpa [List.map_map, Function.comp_def, mkE] using h3
  · obtain ⟨n, hm⟩ := (h5 k v).1 hk
    exact ⟨mkE kv (k, v, n), by simpa using ⟨k, v, n, hm, rfl⟩, rfl, rfl⟩
end
/-- What a map from ints holds, entry by entry. -/
theorem IMap.entries {m : Int → Option SV} (h : IMap es clk m) : (∀ e ∈ es.toList, e.born < clk ∧ ∃ k x, e.key = .int .i64 k ∧ e.val = den x ∧ m k = some x) ∧ (es.toList.map (·.born)).Nodup ∧ (es.toList.map (·.key)).Nodup ∧ ∀ k x, m k = some x → ∃ e ∈ es.toList, e.key = .int .i64 k := by
  obtain ⟨l, rfl, h2, h3, h4, h5⟩ := h
  refine ⟨fun e he => ?_, ?_, ?_, fun k v hk => ?_⟩
  · simp only [List.mem_map] at he
    obtain ⟨⟨k, x, n⟩, hm, rfl⟩ := he
    exact ⟨h4 _ hm, k, x, rfl, rfl, (h5 k x).2 ⟨n, hm⟩⟩
  · simpa [List.map_map, Function.comp_def, mkEntry] using h3
  · have e1 : (l.map mkEntry).map (·.key) = (l.map (·.1)).map (fun k => Value.int .i64 k) := by simp [List.map_map, Function.comp_def, mkEntry]
    simp only [e1]
    refine List.Pairwise.map _ (fun a b hab => ?_) h2
    intro hh
    injection hh with _ hh
    exact hab hh
  · obtain ⟨n, hm⟩ := (h5 k v).1 hk
    exact ⟨mkEntry (k, v, n), by simpa using ⟨k, v, n, hm, rfl⟩, rfl⟩
end Go.SX
