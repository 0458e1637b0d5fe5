/- Histories: Backward as an iterator; Last. -/
import Derived.Test.YtajppkjbmiemhaaOBa
import Derived.RangeFuncNested
namespace Go.Proofs
set_option linter.unusedVariables false
set_option linter.unusedSimpArgs false
set_option linter.unusedSectionVars false
open Go Go.RowKit Go.Shelf Go.Hist

attribute [local go_sem] Oper.semAt_some

set_option maxRecDepth 100000 in
set_option maxHeartbeats 1000000 in
theorem back1_nil_in (F : Fence) (n : Nat) (h27 : F.fn 27) (hro : F.round = none) (l Bs : Nat) (a : Option Addr) (cap : Nat) (J : List (Nat × HEv) → World → Prop) (W : World) (hBs : W.cell? ⟨Bs, 0, none⟩ = some (.slice a 0 cap)) (h0 : J [] W) :
    CallsIn F n Try.prog 27 #[.func (.yield l) #[] #[], .pointer (some ⟨Bs, 0, none⟩)] W fun e W' => (∃ v, e = .returned v) ∧ J [] W' := by
  refine callsIn_of_wp Try.func27 rfl h27 ?_ hro
  simp only [Try.ntmps27, List.size_toArray, List.length_cons, List.length_nil, Nat.reduceAdd, Nat.reduceSub, Array.replicate_succ, Array.replicate_zero, List.push_toArray, List.append_toArray, List.nil_append, List.cons_append]
  gi_wp2
  gi_loopw [3] (fun i wr => i = .int .i64 (-1) ∧ J [] wr) (fun _ _ => 0)
  case atStart => exact ⟨by simp, h0⟩
  case round =>
    obtain ⟨rfl, hJs⟩ := hrel
    gi_wp2
    go_end0
    exact ⟨⟨_, rfl⟩, hJs⟩

set_option maxHeartbeats 1000000 in
/-- Backward: the slice is boxed; the function value captures the box. -/
theorem back_in (F : Fence) (n : Nat) (h21 : F.fn 21) (hro : F.round = none) (a : Option Addr) (len cap : Nat) (w : World) :
    CallsIn F n Try.prog 21 #[.slice a len cap] w fun e w' => e = .returned (.func (.func 27) #[] #[.pointer (some ⟨w.heap.size, 0, none⟩)]) ∧ w' = w.alloc (.cells #[.slice a len cap] 22) := by
  refine callsIn_of_wp Try.func21 rfl h21 ?_ hro
  simp only [Try.ntmps21, List.size_toArray, List.length_cons, List.length_nil, Nat.reduceAdd, Nat.reduceSub, Array.replicate_succ, Array.replicate_zero, List.push_toArray, List.append_toArray, List.nil_append, List.cons_append]
  gi_wp2
  go_ret
  exact ⟨rfl, rfl⟩

/-- The slice holds the first len of f, in a block below n₀; or it is empty. -/
def Evs (n₀ : Nat) (W : World) (sv : Value) (len : Nat) (f : Nat → HEv) : Prop :=
  (∃ a cap, sv = .slice a 0 cap ∧ len = 0) ∨ ∃ b off cap, sv = .slice (some ⟨b, off, none⟩) len cap ∧ b < n₀ ∧ ∀ j, j < len → EvAt W b off j (f j)
theorem EvAt.below {n₀ b off j : Nat} {e : HEv} {A B : World} (h : Below n₀ A B) (hb : b < n₀) (hE : EvAt A b off j e) : EvAt B b off j e :=
  ⟨(h.cell (p := ⟨b, off + j * 5, none⟩) hb).trans hE.1, (h.cell (p := ⟨b, off + j * 5 + 1, none⟩) hb).trans hE.2.1, (h.cell (p := ⟨b, off + j * 5 + 2, none⟩) hb).trans hE.2.2.1, (h.cell (p := ⟨b, off + j * 5 + 3, none⟩) hb).trans hE.2.2.2.1, (h.cell (p := ⟨b, off + j * 5 + 4, none⟩) hb).trans hE.2.2.2.2⟩
theorem back_stops (F : Fence) (n : Nat) (h27 : F.fn 27) (hro : F.round = none) (hn : 1 ≤ n) (Bs n₀ : Nat) (sv : Value) (len : Nat) (f : Nat → HEv) (hreach : len ≤ 1000000) (w : World) (hBs : Bs < n₀) (hn₀ : n₀ ≤ w.heap.size)
    (hc : w.cell? ⟨Bs, 0, none⟩ = some sv) (hI : Evs n₀ w sv len f) :
    SeqStopsK F n Try.prog 27 #[.pointer (some ⟨Bs, 0, none⟩)] (fun x : Nat × HEv => #[.int .i64 (x.1 : Int), evV x.2]) (Below n₀) (fun ys => ys = upto (bk f len) len)
      (fun pre => ∃ k, k ≤ len ∧ pre = upto (bk f len) k) len w := fun l J Jx W hW _ _ hY h0 => by
  have hWn : Below n₀ w W := hW.mono hn₀
  have hc' := (hWn.cell (p := ⟨Bs, 0, none⟩) hBs).trans hc
  rcases hI with ⟨a, cap, rfl, rfl⟩ | ⟨b, off, cap, rfl, hb, hcs⟩
  · exact (back1_nil_in F n h27 hro l Bs a cap J W hc' h0).mono fun e W' ⟨he, hj⟩ => ⟨he, .inl ⟨_, rfl, hj⟩⟩
  · exact back1_in F n h27 hro hn l Bs n₀ b off len cap f hreach hb J Jx hY W hc' hBs (fun j hj => (hcs j hj).below hWn hb) h0

theorem heap_setCell_at {W : World} {B i : Nat} {c : Array Value} {t : TypeId} {fz : Nat × Nat} (v : Value) (h : W.heap[B]? = some (.cells c t fz)) : (W.setCell ⟨B, i, none⟩ v).heap[B]? = some (.cells (c.setIfInBounds i v) t fz) := by
  obtain ⟨hlt, hk⟩ := Array.getElem?_eq_some_iff.1 h
  show (W.heap.modify B _)[B]? = _
  rw [Array.getElem?_eq_getElem (by rw [Array.size_modify]; exact hlt), Array.getElem_modify_self, hk]
  rfl
end Go.Proofs
