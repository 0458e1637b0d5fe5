/- CzE: texts of this proof, joined. -/
import Derived.Test.YtbhkpmnieopddaaF2
set_option linter.unusedVariables false
set_option linter.unusedSimpArgs false
set_option linter.unusedSectionVars false
namespace Go.Proofs.C8
open Go Go.Proofs Go.SX Go.RowKit Go.Proofs.L6
theorem RdCo.keepM {P : Nat → Prop} {w1 w2 : World} {M : List Nat} {vL vS vW : Value} {c : Co} (h : RdCo P w1 vL vS vW c) (hk : KeepsTo w1 M w2) (hM : ∀ x ∈ M, ¬ P x) : RdCo P w2 vL vS vW c := ⟨h.1.keep hk hM, h.2.1.keep hk hM, h.2.2.keep hk hM⟩
theorem RdCo.below' {P : Nat → Prop} {w1 w2 : World} {vL vS vW : Value} {c : Co} (h : RdCo P w1 vL vS vW c) (hb : Below w1.heap.size w1 w2) : RdCo P w2 vL vS vW c := ⟨h.1.below hb, h.2.1.below hb, h.2.2.below hb⟩
def okS (g f t : Int) (s : Spn) : Prop := s.ow < 0 ∨ s.ow = g ∨ s.to ≤ f ∨ t ≤ s.fr
instance (g f t : Int) (s : Spn) : Decidable (okS g f t s) := by unfold okS; infer_instance
def inB (f t : Int) : Prop := 0 ≤ f ∧ f < t ∧ t ≤ 60
instance (f t : Int) : Decidable (inB f t) := by unfold inB; infer_instance
theorem Inv.chkAt {n : Nat} {c : Co} (I : Inv n c) {s : Spn} (hs : s ∈ c.S) : s.fr < s.to ∧ S7.MayO s.ow s.ep ∧ S7.HasS c.S s.fr (s.ow, s.ep) := by
  obtain ⟨j, hj, hjs⟩ := List.mem_iff_getElem.1 hs
  have h1 := S7.chkS_nth I.S.1 hj
  rw [nth_lt hj, hjs] at h1
  exact ⟨h1.1, h1.2.2, s, hs, ⟨Int.le_refl _, h1.1⟩, rfl⟩
end Go.Proofs.C8
