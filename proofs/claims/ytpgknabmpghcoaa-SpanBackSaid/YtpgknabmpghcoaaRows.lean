/-
  No cell of these rows narrows 'for every input' (looked for: loops, veiled, ifaces, maps, wideKeys, modest, calm, conditions, laid).
  DERIVED. THE GIVEN ROWS OF THIS SEAT. 5 by the template 'for every input the law returns true; each argument reads behind the call as it read before'; 0 by the template 'total and deterministic' (their statements: YtpgknabmpghcoaaTotals.lean).
  GIVEN WITH THE SEED: the statements are not yours to turn. If you find one false, say at which input.
  Laid BY PROGRAM, IN A SANDBOX (cutbox-rows.mjs): the forced cells as the released guide's own fill.sh prints them over the translation 997723678ef8655f… (all of the seat's roots in one cut). By AI agents, Wed Nov 11 2026. No macro, syntax, notation, axiom, sorry.
-/
import Derived.Test.YtpgknabmpghcoaaChecked
import GoSem.Claim
import GoSem.ClaimJoined
import GoSem.ClaimMapViews
import Derived.JoinedTies
import Derived.KernelRfl
namespace Go.Proofs.Ytpgknabmpghcoaa
/- THE CELL 'sum', in the pinned program and in every row, IS THE sha256 OF THE DUMP (.gsa) THAT YtpgknabmpghcoaaProg.lean LOADS. Nothing in Lean hashes anything: it is a label: what it is worth is what the hold of that sum in a sandbox is worth. -/
noncomputable def Try.pinned : Pinned := { name := "ytpgknabmpghcoaa", sum := "997723678ef8655fb2bb26ca723738fa9bc8bfda80314c7de898e40eed83e65e", checked := Try.checked }
namespace Rows
def none {H : Type} : Left H := { results := [], args := [] }

/-- 'quicksetlaw07.SpanStale': WHATEVER THE INPUT: true; the input reads as it did. -/
def spanStaleSpec : ChangeSpec := { name := "spanStale", fn := fun _ => fun
  | [d1, d2, d3, d4, d5, d6, d7] => { results := [.lit (.bool true)], args := [d1, d2, d3, d4, d5, d6, d7] }
  | _ => none }
def spanStaleRow : OpenClaim := { program := "ytpgknabmpghcoaa", sum := "997723678ef8655fb2bb26ca723738fa9bc8bfda80314c7de898e40eed83e65e", func := "quickset/quicksetlaw07.SpanStale", spec := "spanStale", inPlace := ["slices.overlaps[quickset/api.Span]"], unfollowed := true, recurses := true, apart := false }
def SpanStaleSaid : Prop := spanStaleRow.holds Try.pinned (OpenSpec.ofChange spanStaleSpec)

/-- ITS FALSE NEIGHBOUR: 'it returns false'. Refute it at one input. -/
def spanStaleWrong : ChangeSpec := { name := "spanStale", fn := fun _ => fun
  | [d1, d2, d3, d4, d5, d6, d7] => { results := [.lit (.bool false)], args := [d1, d2, d3, d4, d5, d6, d7] }
  | _ => none }
def SpanStaleWrongFalsely : Prop := spanStaleRow.holds Try.pinned (OpenSpec.ofChange spanStaleWrong)

/-- 'quicksetlaw07.SpanCuts': WHATEVER THE INPUT: true; the input reads as it did. -/
def spanCutsSpec : ChangeSpec := { name := "spanCuts", fn := fun _ => fun
  | [d1, d2] => { results := [.lit (.bool true)], args := [d1, d2] }
  | _ => none }
def spanCutsRow : OpenClaim := { program := "ytpgknabmpghcoaa", sum := "997723678ef8655fb2bb26ca723738fa9bc8bfda80314c7de898e40eed83e65e", func := "quickset/quicksetlaw07.SpanCuts", spec := "spanCuts", inPlace := ["slices.overlaps[quickset/api.Span]"], unfollowed := true, recurses := true, apart := false }
def SpanCutsSaid : Prop := spanCutsRow.holds Try.pinned (OpenSpec.ofChange spanCutsSpec)

/-- ITS FALSE NEIGHBOUR: 'it returns false'. Refute it at one input. -/
def spanCutsWrong : ChangeSpec := { name := "spanCuts", fn := fun _ => fun
  | [d1, d2] => { results := [.lit (.bool false)], args := [d1, d2] }
  | _ => none }
def SpanCutsWrongFalsely : Prop := spanCutsRow.holds Try.pinned (OpenSpec.ofChange spanCutsWrong)

/-- 'quicksetlaw07.SpanOnce': WHATEVER THE INPUT: true; the input reads as it did. -/
def spanOnceSpec : ChangeSpec := { name := "spanOnce", fn := fun _ => fun
  | [d1, d2, d3, d4, d5] => { results := [.lit (.bool true)], args := [d1, d2, d3, d4, d5] }
  | _ => none }
def spanOnceRow : OpenClaim := { program := "ytpgknabmpghcoaa", sum := "997723678ef8655fb2bb26ca723738fa9bc8bfda80314c7de898e40eed83e65e", func := "quickset/quicksetlaw07.SpanOnce", spec := "spanOnce", inPlace := ["slices.overlaps[quickset/api.Span]"], unfollowed := true, recurses := true, apart := false }
def SpanOnceSaid : Prop := spanOnceRow.holds Try.pinned (OpenSpec.ofChange spanOnceSpec)

/-- ITS FALSE NEIGHBOUR: 'it returns false'. Refute it at one input. -/
def spanOnceWrong : ChangeSpec := { name := "spanOnce", fn := fun _ => fun
  | [d1, d2, d3, d4, d5] => { results := [.lit (.bool false)], args := [d1, d2, d3, d4, d5] }
  | _ => none }
def SpanOnceWrongFalsely : Prop := spanOnceRow.holds Try.pinned (OpenSpec.ofChange spanOnceWrong)

/-- 'quicksetlaw07.SpanBack': WHATEVER THE INPUT: true; the input reads as it did. -/
def spanBackSpec : ChangeSpec := { name := "spanBack", fn := fun _ => fun
  | [d1, d2, d3] => { results := [.lit (.bool true)], args := [d1, d2, d3] }
  | _ => none }
def spanBackRow : OpenClaim := { program := "ytpgknabmpghcoaa", sum := "997723678ef8655fb2bb26ca723738fa9bc8bfda80314c7de898e40eed83e65e", func := "quickset/quicksetlaw07.SpanBack", spec := "spanBack", inPlace := ["slices.overlaps[quickset/api.Span]"], unfollowed := true, recurses := true, apart := false }
def SpanBackSaid : Prop := spanBackRow.holds Try.pinned (OpenSpec.ofChange spanBackSpec)

/-- ITS FALSE NEIGHBOUR: 'it returns false'. Refute it at one input. -/
def spanBackWrong : ChangeSpec := { name := "spanBack", fn := fun _ => fun
  | [d1, d2, d3] => { results := [.lit (.bool false)], args := [d1, d2, d3] }
  | _ => none }
def SpanBackWrongFalsely : Prop := spanBackRow.holds Try.pinned (OpenSpec.ofChange spanBackWrong)

/-- 'quicksetlaw07.SpanChanges': WHATEVER THE INPUT: true; the input reads as it did. -/
def spanChangesSpec : ChangeSpec := { name := "spanChanges", fn := fun _ => fun
  | [d1, d2, d3, d4, d5, d6] => { results := [.lit (.bool true)], args := [d1, d2, d3, d4, d5, d6] }
  | _ => none }
def spanChangesRow : OpenClaim := { program := "ytpgknabmpghcoaa", sum := "997723678ef8655fb2bb26ca723738fa9bc8bfda80314c7de898e40eed83e65e", func := "quickset/quicksetlaw07.SpanChanges", spec := "spanChanges", inPlace := ["slices.overlaps[quickset/api.Span]"], unfollowed := true, recurses := true, apart := false }
def SpanChangesSaid : Prop := spanChangesRow.holds Try.pinned (OpenSpec.ofChange spanChangesSpec)

/-- ITS FALSE NEIGHBOUR: 'it returns false'. Refute it at one input. -/
def spanChangesWrong : ChangeSpec := { name := "spanChanges", fn := fun _ => fun
  | [d1, d2, d3, d4, d5, d6] => { results := [.lit (.bool false)], args := [d1, d2, d3, d4, d5, d6] }
  | _ => none }
def SpanChangesWrongFalsely : Prop := spanChangesRow.holds Try.pinned (OpenSpec.ofChange spanChangesWrong)

/- THE SECOND FORM. 'bulk': how many values and letters a reading holds, each counted each time it is reached (what is shared counts as often as it is met; a slice's spare places count too). A statement '..UptoSaid' is the law's where the arguments, and the package variables that the reading takes, are together of bulk at most 1048576: NARROWER than '..Said'. Prove '..Said' where nothing that the law and all that it calls make is longer than what came in: it says more and counts as full. Else prove '..UptoSaid'. A law counts once. -/
mutual
def uptoBulk {H : Type} : DataW H → Nat
  | .lit (.string bytes) => bytes.length + 1
  | .lit _ => 1
  | .nil => 1
  | .ptr d => uptoBulk d + 1
  | .slice elems spare => uptoBulkAll elems + uptoBulkAll spare + 1
  | .agg parts => uptoBulkAll parts + 1
  | .iface _ d => uptoBulk d + 1
  | .map entries => uptoBulkEntries entries + 1
  | .held _ => 1
def uptoBulkAll {H : Type} : List (DataW H) → Nat
  | [] => 0
  | d :: r => uptoBulk d + uptoBulkAll r
def uptoBulkEntries {H : Type} : List (Lit × DataW H) → Nat
  | [] => 0
  | x :: r => uptoBulkEntry x + uptoBulkEntries r
def uptoBulkEntry {H : Type} : Lit × DataW H → Nat
  | (.string bytes, d) => bytes.length + uptoBulk d + 1
  | (_, d) => uptoBulk d + 1
 end
def uptoSmall : (H : Type) → List (DataW H) → Bool := fun _ ds => decide (uptoBulkAll ds ≤ 1048576)
def OpenSpec.upto (s : _root_.Go.ChangeSpec) : _root_.Go.OpenSpec := { _root_.Go.OpenSpec.ofChange s with cond := some uptoSmall }

/-- 'quicksetlaw07.SpanStale', WHERE WHAT IT READS IS OF BULK AT MOST 1048576: true; the input reads as it did. -/
def spanStaleUptoRow : OpenClaim := { program := "ytpgknabmpghcoaa", sum := "997723678ef8655fb2bb26ca723738fa9bc8bfda80314c7de898e40eed83e65e", func := "quickset/quicksetlaw07.SpanStale", spec := "spanStale", inPlace := ["slices.overlaps[quickset/api.Span]"], unfollowed := true, recurses := true, apart := false, narrowed := true }
def SpanStaleUptoSaid : Prop := spanStaleUptoRow.holds Try.pinned (OpenSpec.upto spanStaleSpec)

/-- 'quicksetlaw07.SpanCuts', WHERE WHAT IT READS IS OF BULK AT MOST 1048576: true; the input reads as it did. -/
def spanCutsUptoRow : OpenClaim := { program := "ytpgknabmpghcoaa", sum := "997723678ef8655fb2bb26ca723738fa9bc8bfda80314c7de898e40eed83e65e", func := "quickset/quicksetlaw07.SpanCuts", spec := "spanCuts", inPlace := ["slices.overlaps[quickset/api.Span]"], unfollowed := true, recurses := true, apart := false, narrowed := true }
def SpanCutsUptoSaid : Prop := spanCutsUptoRow.holds Try.pinned (OpenSpec.upto spanCutsSpec)

/-- 'quicksetlaw07.SpanOnce', WHERE WHAT IT READS IS OF BULK AT MOST 1048576: true; the input reads as it did. -/
def spanOnceUptoRow : OpenClaim := { program := "ytpgknabmpghcoaa", sum := "997723678ef8655fb2bb26ca723738fa9bc8bfda80314c7de898e40eed83e65e", func := "quickset/quicksetlaw07.SpanOnce", spec := "spanOnce", inPlace := ["slices.overlaps[quickset/api.Span]"], unfollowed := true, recurses := true, apart := false, narrowed := true }
def SpanOnceUptoSaid : Prop := spanOnceUptoRow.holds Try.pinned (OpenSpec.upto spanOnceSpec)

/-- 'quicksetlaw07.SpanBack', WHERE WHAT IT READS IS OF BULK AT MOST 1048576: true; the input reads as it did. -/
def spanBackUptoRow : OpenClaim := { program := "ytpgknabmpghcoaa", sum := "997723678ef8655fb2bb26ca723738fa9bc8bfda80314c7de898e40eed83e65e", func := "quickset/quicksetlaw07.SpanBack", spec := "spanBack", inPlace := ["slices.overlaps[quickset/api.Span]"], unfollowed := true, recurses := true, apart := false, narrowed := true }
def SpanBackUptoSaid : Prop := spanBackUptoRow.holds Try.pinned (OpenSpec.upto spanBackSpec)

/-- 'quicksetlaw07.SpanChanges', WHERE WHAT IT READS IS OF BULK AT MOST 1048576: true; the input reads as it did. -/
def spanChangesUptoRow : OpenClaim := { program := "ytpgknabmpghcoaa", sum := "997723678ef8655fb2bb26ca723738fa9bc8bfda80314c7de898e40eed83e65e", func := "quickset/quicksetlaw07.SpanChanges", spec := "spanChanges", inPlace := ["slices.overlaps[quickset/api.Span]"], unfollowed := true, recurses := true, apart := false, narrowed := true }
def SpanChangesUptoSaid : Prop := spanChangesUptoRow.holds Try.pinned (OpenSpec.upto spanChangesSpec)

end Rows
end Go.Proofs.Ytpgknabmpghcoaa
