/- CFr: texts of this proof, joined. -/
import Derived.Test.YtbhkpmnieopddaaE2
import Derived.Test.YtbhkpmnieopddaaA2
import Derived.Test.YtbhkpmnieopddaaA3
import Derived.Test.YtbhkpmnieopddaaRows
import Derived.WalkKit
import Derived.ProofKit
import Derived.OpenShut
import Derived.ChangeOld
import Derived.Below
import Derived.SizedLaws
set_option linter.unusedVariables false
set_option linter.unusedSimpArgs false
set_option linter.unusedSectionVars false
namespace Go.Proofs.Ytbhkpmnieopddaa
open Go Go.ChangeShapes Go.WideShapes Go.ChangeAt Go.RowKit Go.SX Go.Proofs Go.Proofs.C8
theorem own : ownKnob Try.prog.godebug = none := by kernel_rfl
theorem laidOut : laidOutB Try.prog = true := by kernel_rfl
theorem wf_i64 {x : Int} (h : (Lit.int .i64 x).wf = true) : inK x := by
  simp [Lit.wf, IntKind.min, IntKind.max, IntKind.bits, IntKind.signed] at h
  exact h
end Go.Proofs.Ytbhkpmnieopddaa
