/- Histories: slices.Backward as an iterator. -/
import Derived.Test.YtajppkjbmiemhaaOY
import Derived.Test.YtajppkjbmiemhaaOM
import Derived.RangeFuncBox
import Derived.RangeFuncLeaves
import Derived.Shelf.Abstract
import Derived.WalkKit
import Derived.OwnWalkIn
import Derived.TacticsInMore
import Derived.LoopNIn
import Derived.LoopIn
namespace Go.Proofs
set_option linter.unusedVariables false
set_option linter.unusedSimpArgs false
set_option linter.unusedSectionVars false
open Go Go.RowKit Go.Shelf Go.Hist

attribute [local go_sem] Oper.semAt_some

def upto {α : Type} (f : Nat → α) (k : Nat) : List α := (List.range k).map f
theorem upto_succ {α : Type} (f : Nat → α) (k : Nat) : upto f (k + 1) = upto f k ++ [f k] := by simp [upto, List.range_succ]
theorem upto_length {α : Type} (f : Nat → α) (k : Nat) : (upto f k).length = k := by simp [upto]
def evV (e : HEv) : Value := .agg #[.int .i64 e.at_, .int .i64 e.lba, .bool e.rd, .int .i64 e.ver, .int .u8 e.by_]
/-- Row j of a block of events. -/
def EvAt (W : World) (b off j : Nat) (e : HEv) : Prop :=
  W.cell? ⟨b, off + j * 5, none⟩ = some (.int .i64 e.at_) ∧ W.cell? ⟨b, off + j * 5 + 1, none⟩ = some (.int .i64 e.lba) ∧ W.cell? ⟨b, off + j * 5 + 2, none⟩ = some (.bool e.rd) ∧ W.cell? ⟨b, off + j * 5 + 3, none⟩ = some (.int .i64 e.ver) ∧ W.cell? ⟨b, off + j * 5 + 4, none⟩ = some (.int .u8 e.by_)
def bk (f : Nat → HEv) (len k : Nat) : Nat × HEv := (len - 1 - k, f (len - 1 - k))

set_option maxRecDepth 100000 in
set_option maxHeartbeats 2000000 in
theorem back1_in (F : Fence) (n : Nat) (h27 : F.fn 27) (hro : F.round = none) (hn : 1 ≤ n) (l Bs n₀ b off len cap : Nat) (f : Nat → HEv) (hreach : len ≤ 1000000) (hb : b < n₀) (J Jx : List (Nat × HEv) → World → Prop)
    (hY : ∀ pre x W, J pre W → pre.length < len → YieldAt F (n - 1) Try.prog l #[.int .i64 (x.1 : Int), evV x.2] W fun e W' =>
      (e = .returned (.bool true) ∧ J (pre ++ [x]) W' ∧ Below n₀ W W') ∨ (e = .returned (.bool false) ∧ Jx (pre ++ [x]) W'))
    (W : World) (hBs : W.cell? ⟨Bs, 0, none⟩ = some (.slice (some ⟨b, off, none⟩) len cap)) (hBn : Bs < n₀) (hc : ∀ j, j < len → EvAt W b off j (f j)) (h0 : J [] W) :
    CallsIn F n Try.prog 27 #[.func (.yield l) #[] #[], .pointer (some ⟨Bs, 0, none⟩)] W fun e W' => (∃ v, e = .returned v) ∧
      ((∃ ys, ys = upto (bk f len) len ∧ J ys W') ∨ (∃ pre, (∃ k, k ≤ len ∧ pre = upto (bk f len) k) ∧ Jx pre W')) := by
  refine callsIn_of_wp Try.func27 rfl h27 ?_ hro
  simp only [Try.ntmps27, List.size_toArray, List.length_cons, List.length_nil, Nat.reduceAdd, Nat.reduceSub, Array.replicate_succ, Array.replicate_zero, List.push_toArray, List.append_toArray, List.nil_append, List.cons_append]
  gi_wp2
  gi_loopw [3] (fun i wr => ∃ k : Nat, k ≤ len ∧ i = .int .i64 ((len : Int) - 1 - (k : Int)) ∧ J (upto (bk f len) k) wr ∧ Below n₀ W wr)
    (fun i _ => (intOf i + 1).toNat)
  case atStart =>
    exact ⟨0, Nat.zero_le _, by simp, h0, Below.refl _ _⟩
  case round =>
    obtain ⟨k, hk, rfl, hJs, hnx⟩ := hrel
    have hBx : wr.cell? ⟨Bs, 0, none⟩ = some (.slice (some ⟨b, off, none⟩) len cap) := (hnx.cell (p := ⟨Bs, 0, none⟩) hBn).trans hBs
    by_cases hlt : k < len
    · obtain ⟨q, hq⟩ : ∃ q : Nat, (len : Int) - 1 - (k : Int) = (q : Int) := ⟨len - 1 - k, by omega⟩
      have hql : q < len := by omega
      have hq2 : q = len - 1 - k := by omega
      obtain ⟨c0, c1, c2, c3, c4⟩ := hc q hql
      obtain ⟨fn, tmps, assign, body, hy, hR⟩ := hY _ (q, f q) wr hJs (by rw [upto_length]; exact hlt)
      dsimp only [evV] at hy
      have d0 : wr.cell? ⟨b, off + q * 5, none⟩ = some (.int .i64 (f q).at_) := (hnx.cell (p := ⟨b, off + q * 5, none⟩) hb).trans c0
      have d1 : wr.cell? ⟨b, off + q * 5 + 1, none⟩ = some (.int .i64 (f q).lba) := (hnx.cell (p := ⟨b, off + q * 5 + 1, none⟩) hb).trans c1
      have d2 : wr.cell? ⟨b, off + q * 5 + 2, none⟩ = some (.bool (f q).rd) := (hnx.cell (p := ⟨b, off + q * 5 + 2, none⟩) hb).trans c2
      have d3 : wr.cell? ⟨b, off + q * 5 + 3, none⟩ = some (.int .i64 (f q).ver) := (hnx.cell (p := ⟨b, off + q * 5 + 3, none⟩) hb).trans c3
      have d4 : wr.cell? ⟨b, off + q * 5 + 4, none⟩ = some (.int .u8 (f q).by_) := (hnx.cell (p := ⟨b, off + q * 5 + 4, none⟩) hb).trans c4
      rw [hq]
      clear hq2 c0 c1 c2 c3 c4
      gi_wp2
      refine hR.mono ?_
      rintro e W3 (⟨rfl, hJ3, hk3⟩ | ⟨rfl, hJx3⟩)
      · gi_wp2
        go_roundw
        case rel => exact ⟨k + 1, by omega, (by simp; try omega), by rw [upto_succ, show bk f len k = (q, f q) by unfold bk; rw [show len - 1 - k = q by omega]]; exact hJ3, hnx.trans hk3⟩
        case measure => (simp [intOf]; try omega)
      · gi_wp2
        refine bodyPost_ret (results_none rfl _ _ _) rfl ?_
        exact ⟨⟨_, rfl⟩, .inr ⟨_, ⟨k + 1, by omega, by rw [upto_succ, show bk f len k = (q, f q) by unfold bk; rw [show len - 1 - k = q by omega]]⟩, hJx3⟩⟩
    · obtain rfl : k = len := by omega
      rw [show (k : Int) - 1 - (k : Int) = -1 by omega]
      gi_wp2
      go_end0
      exact ⟨⟨_, rfl⟩, .inl ⟨_, rfl, hJs⟩⟩
end Go.Proofs
