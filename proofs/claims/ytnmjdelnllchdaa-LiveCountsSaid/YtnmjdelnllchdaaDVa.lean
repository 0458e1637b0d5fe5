/- Live: comparing extents, as the kit walks it. -/
import Derived.Deep.RegionWith
import Derived.WalkKit
import Derived.Sort.Grow
import Derived.LoopN
import Derived.Shelf.Abstract
import Derived.Test.YtnmjdelnllchdaaProg
namespace Go.Proofs
set_option linter.unusedVariables false
set_option linter.unusedSimpArgs false
set_option linter.unusedSectionVars false
open Go Go.RowKit Go.Sort

def nOf (v : Value) : Nat := match v with | .int _ a => a.toNat | _ => 0

set_option maxRecDepth 100000 in
set_option maxHeartbeats 4000000 in
theorem or2_ok (x y : Int) (b : Nat) (W : World) (h0 : W.cell? ⟨b, 0, none⟩ = some (.int .i64 x)) (h1 : W.cell? ⟨b, 1, none⟩ = some (.int .i64 y)) : Calls Try.prog 37 #[.slice (some ⟨b, 0, none⟩) 2 2] W fun e w' => e = .returned (.int .i64 (if x ≠ 0 then x else y)) ∧ w' = W := by
  go_enter Try.func37, Try.ntmps37
  go_wp2
  go_loopw [8] (fun i wr => wr = W ∧ ∃ k : Nat, i = .int .i64 k ∧ k ≤ 2 ∧ (0 < k → x = 0) ∧ (1 < k → y = 0)) (fun i _ => 2 - nOf i)
  case atStart => exact ⟨rfl, 0, rfl, by omega, by omega, by omega⟩
  case round =>
    obtain ⟨rfl, k, rfl, hk, hx, hy⟩ := hrel
    rcases Nat.lt_or_ge k 1 with h | h
    · obtain rfl : k = 0 := by omega
      by_cases hx0 : x = 0
      · subst hx0
        go_wp2
        exact ⟨⟨trivial, 1, rfl, by omega, fun _ => trivial, by omega⟩, by decide⟩
      · go_wp2
        go_ret
        simp
    · obtain rfl : x = 0 := hx (by omega)
      rcases Nat.lt_or_ge k 2 with h2 | h2
      · obtain rfl : k = 1 := by omega
        by_cases hy0 : y = 0
        · subst hy0
          go_wp2
          exact ⟨⟨trivial, 2, rfl, by omega, fun _ => trivial, fun _ => trivial⟩, by decide⟩
        · go_wp2
          go_ret
          simp
      · obtain rfl : k = 2 := by omega
        obtain rfl : y = 0 := hy (by omega)
        go_wp2
        go_ret
        simp

end Go.Proofs
