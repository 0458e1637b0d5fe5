/- Histories: events as keys of a map. -/
import Derived.Test.YtajppkjbmiemhaaOM
namespace Go.Proofs
set_option linter.unusedVariables false
set_option linter.unusedSimpArgs false
set_option linter.unusedSectionVars false
open Go Go.SX Go.RowKit Go.Hist

instance : DecidableEq HEv := fun a b => decidable_of_iff (a.at_ = b.at_ ∧ a.lba = b.lba ∧ a.rd = b.rd ∧ a.ver = b.ver ∧ a.by_ = b.by_) (by cases a; cases b; simp)
def kvE (x : HEv) : Value := den (.ag (evRow x))
def InEv (x : HEv) : Prop := inK x.at_ ∧ inK x.lba ∧ inK x.ver ∧ 0 ≤ x.by_ ∧ x.by_ < 256

theorem laidOut20 : laidOutB Try.prog = true := by kernel_rfl
theorem evLaw : WideMaps.KeyLaw Try.prog 28 := deep_law_laid laidOut20 (m := 3) (by decide) (of_decide_eq_true (by kernel_rfl)) (by kernel_rfl) (by kernel_rfl)
theorem evKey (x : HEv) (h : InEv x) : ∃ l, keyOf Try.prog 28 (kvE x) = some l := by
  have hT : Try.prog.keyType 28 = true := by kernel_rfl
  have c28 : Try.prog.cellsOf 28 = 5 := by kernel_rfl
  have c3 : Try.prog.cellsOf 3 = 1 := by kernel_rfl
  have c4 : Try.prog.cellsOf 4 = 1 := by kernel_rfl
  have c5 : Try.prog.cellsOf 5 = 1 := by kernel_rfl
  obtain ⟨n, hn⟩ : ∃ n, Try.prog.types.size = n + 1 := ⟨Try.prog.types.size - 1, by have : 0 < Try.prog.types.size := of_decide_eq_true (by kernel_rfl); omega⟩
  unfold keyOf
  rw [Try.underlying28]
  simp only [hT, Bool.true_and, hn]
  have hF : (kvE x).formed Try.prog 28 = true := by
    simp [kvE, den, denL, evRow, Value.formed, Try.underlying28, c28]
  rw [if_pos hF]
  obtain ⟨h1, h2, h3, h4, h5⟩ := h
  have w1 : (Lit.int .i64 x.at_).wf = true := by
    unfold inK at h1
    simp [Lit.wf, IntKind.min, IntKind.max, IntKind.bits, IntKind.signed]
    exact h1
  have w2 : (Lit.int .i64 x.lba).wf = true := by
    unfold inK at h2
    simp [Lit.wf, IntKind.min, IntKind.max, IntKind.bits, IntKind.signed]
    exact h2
  have w3 : (Lit.int .i64 x.ver).wf = true := by
    unfold inK at h3
    simp [Lit.wf, IntKind.min, IntKind.max, IntKind.bits, IntKind.signed]
    exact h3
  have w4 : (Lit.int .u8 x.by_).wf = true := by
    simp [Lit.wf, IntKind.min, IntKind.max, IntKind.bits, IntKind.signed]
    omega
  have hc : (kvE x).cells.toList = [.int .i64 x.at_, .int .i64 x.lba, .bool x.rd, .int .i64 x.ver, .int .u8 x.by_] := by
    simp [kvE, den, denL, evRow, Value.cells]
  rw [hc]
  simp [Program.keyLits, Try.underlying28, c28, Try.underlying3, Try.underlying4, Try.underlying5, c3, c4, c5, w1, w2, w3, w4]
theorem evOK : KeyOK kvE InEv Try.prog 28 := ⟨evLaw, evKey, fun a b h => by
  cases a; cases b
  simp [kvE, den, denL, evRow] at h
  simp [h]⟩
end Go.Proofs
