/- clear of a row that is one's own. Holds for every program. -/
import Derived.Test.YtnmjdelnllchdaaSxL
namespace Go.SX
set_option linter.unusedVariables false
set_option linter.unusedSimpArgs false
set_option linter.unusedSectionVars false
open Go Go.RowKit

theorem run_clear {P : Program} {w : World} {t e ty : TypeId} {te : TI} {b n cap u : Nat} {c : Array Value} (ht : P.underlying t = some (.slice e)) (hz : ∀ w, (zeroValue e).run P w = .ok te.zero w) (hb : w.heap[b]? = some (.cells c u (0, 0))) (hn : n ≠ 0)
    (hsz : (Builtin.zeroCells te.zero.cells n).size ≤ c.size) (hna : ∀ v ∈ (Builtin.zeroCells te.zero.cells n).toList, NotAgg v) :
    (Builtin.clear_ #[t] ty #[.slice (some ⟨b, 0, none⟩) n cap]).run P w = .ok (.tuple #[]) (putBlk w b (.cells (putAll c 0 (Builtin.zeroCells te.zero.cells n).toList) u (0, 0))) := by
  have hst := run_storeCells (P := P) (Builtin.zeroCells te.zero.cells n).toList w c 0 0 hb (by simpa using hsz) hna
  obtain ⟨m, rfl⟩ : ∃ m, n = m + 1 := ⟨n - 1, by omega⟩
  simp [Builtin.clear_, run_underlying ht, hz, hst]
end Go.SX
