/-
  No cell of these rows narrows 'for every input' (looked for: loops, veiled, ifaces, maps, wideKeys, modest, calm, conditions, laid).
  DERIVED. THE GIVEN ROWS OF THIS SEAT. 4 by the template 'for every input the law returns true; each argument reads behind the call as it read before'; 0 by the template 'total and deterministic' (their statements: YtbhkpmnieopddaaTotals.lean).
  GIVEN WITH THE SEED: the statements are not yours to turn. If you find one false, say at which input.
  Laid BY PROGRAM, IN A SANDBOX (cutbox-rows.mjs): the forced cells as the released guide's own fill.sh prints them over the translation 2732d37751f7bb54… (all of the seat's roots in one cut). By AI agents, Wed Nov 11 2026. No macro, syntax, notation, axiom, sorry.
-/
import Derived.Test.YtbhkpmnieopddaaChecked
import GoSem.Claim
import GoSem.ClaimJoined
import GoSem.ClaimMapViews
import Derived.JoinedTies
import Derived.KernelRfl
namespace Go.Proofs.Ytbhkpmnieopddaa
/- THE CELL 'sum', in the pinned program and in every row, IS THE sha256 OF THE DUMP (.gsa) THAT YtbhkpmnieopddaaProg.lean LOADS. Nothing in Lean hashes anything: it is a label: what it is worth is what the hold of that sum in a sandbox is worth. -/
noncomputable def Try.pinned : Pinned := { name := "ytbhkpmnieopddaa", sum := "2732d37751f7bb543702231c0ebde7e4acada1b22981333f46b449e6b4d03409", checked := Try.checked }
namespace Rows
def none {H : Type} : Left H := { results := [], args := [] }

/-- 'quicksetlaw08.CoordLeaves': WHATEVER THE INPUT: true; the input reads as it did. -/
def coordLeavesSpec : ChangeSpec := { name := "coordLeaves", fn := fun _ => fun
  | [d1, d2, d3, d4] => { results := [.lit (.bool true)], args := [d1, d2, d3, d4] }
  | _ => none }
def coordLeavesRow : OpenClaim := { program := "ytbhkpmnieopddaa", sum := "2732d37751f7bb543702231c0ebde7e4acada1b22981333f46b449e6b4d03409", func := "quickset/quicksetlaw08.CoordLeaves", spec := "coordLeaves", inPlace := ["slices.overlaps[quickset/api.Lease]", "slices.overlaps[quickset/api.Span]"], unfollowed := true, recurses := true, apart := false }
def CoordLeavesSaid : Prop := coordLeavesRow.holds Try.pinned (OpenSpec.ofChange coordLeavesSpec)

/-- ITS FALSE NEIGHBOUR: 'it returns false'. Refute it at one input. -/
def coordLeavesWrong : ChangeSpec := { name := "coordLeaves", fn := fun _ => fun
  | [d1, d2, d3, d4] => { results := [.lit (.bool false)], args := [d1, d2, d3, d4] }
  | _ => none }
def CoordLeavesWrongFalsely : Prop := coordLeavesRow.holds Try.pinned (OpenSpec.ofChange coordLeavesWrong)

/-- 'quicksetlaw08.CoordOnce': WHATEVER THE INPUT: true; the input reads as it did. -/
def coordOnceSpec : ChangeSpec := { name := "coordOnce", fn := fun _ => fun
  | [d1, d2, d3] => { results := [.lit (.bool true)], args := [d1, d2, d3] }
  | _ => none }
def coordOnceRow : OpenClaim := { program := "ytbhkpmnieopddaa", sum := "2732d37751f7bb543702231c0ebde7e4acada1b22981333f46b449e6b4d03409", func := "quickset/quicksetlaw08.CoordOnce", spec := "coordOnce", inPlace := ["slices.overlaps[quickset/api.Lease]", "slices.overlaps[quickset/api.Span]"], unfollowed := true, recurses := true, apart := false }
def CoordOnceSaid : Prop := coordOnceRow.holds Try.pinned (OpenSpec.ofChange coordOnceSpec)

/-- ITS FALSE NEIGHBOUR: 'it returns false'. Refute it at one input. -/
def coordOnceWrong : ChangeSpec := { name := "coordOnce", fn := fun _ => fun
  | [d1, d2, d3] => { results := [.lit (.bool false)], args := [d1, d2, d3] }
  | _ => none }
def CoordOnceWrongFalsely : Prop := coordOnceRow.holds Try.pinned (OpenSpec.ofChange coordOnceWrong)

/-- 'quicksetlaw08.CoordSpans': WHATEVER THE INPUT: true; the input reads as it did. -/
def coordSpansSpec : ChangeSpec := { name := "coordSpans", fn := fun _ => fun
  | [d1, d2, d3, d4, d5, d6] => { results := [.lit (.bool true)], args := [d1, d2, d3, d4, d5, d6] }
  | _ => none }
def coordSpansRow : OpenClaim := { program := "ytbhkpmnieopddaa", sum := "2732d37751f7bb543702231c0ebde7e4acada1b22981333f46b449e6b4d03409", func := "quickset/quicksetlaw08.CoordSpans", spec := "coordSpans", inPlace := ["slices.overlaps[quickset/api.Lease]", "slices.overlaps[quickset/api.Span]"], unfollowed := true, recurses := true, apart := false }
def CoordSpansSaid : Prop := coordSpansRow.holds Try.pinned (OpenSpec.ofChange coordSpansSpec)

/-- ITS FALSE NEIGHBOUR: 'it returns false'. Refute it at one input. -/
def coordSpansWrong : ChangeSpec := { name := "coordSpans", fn := fun _ => fun
  | [d1, d2, d3, d4, d5, d6] => { results := [.lit (.bool false)], args := [d1, d2, d3, d4, d5, d6] }
  | _ => none }
def CoordSpansWrongFalsely : Prop := coordSpansRow.holds Try.pinned (OpenSpec.ofChange coordSpansWrong)

/-- 'quicksetlaw08.CoordReplays': WHATEVER THE INPUT: true; the input reads as it did. -/
def coordReplaysSpec : ChangeSpec := { name := "coordReplays", fn := fun _ => fun
  | [d1, d2, d3, d4] => { results := [.lit (.bool true)], args := [d1, d2, d3, d4] }
  | _ => none }
def coordReplaysRow : OpenClaim := { program := "ytbhkpmnieopddaa", sum := "2732d37751f7bb543702231c0ebde7e4acada1b22981333f46b449e6b4d03409", func := "quickset/quicksetlaw08.CoordReplays", spec := "coordReplays", inPlace := ["slices.overlaps[quickset/api.Lease]", "slices.overlaps[quickset/api.Span]"], unfollowed := true, recurses := true, apart := false }
def CoordReplaysSaid : Prop := coordReplaysRow.holds Try.pinned (OpenSpec.ofChange coordReplaysSpec)

/-- ITS FALSE NEIGHBOUR: 'it returns false'. Refute it at one input. -/
def coordReplaysWrong : ChangeSpec := { name := "coordReplays", fn := fun _ => fun
  | [d1, d2, d3, d4] => { results := [.lit (.bool false)], args := [d1, d2, d3, d4] }
  | _ => none }
def CoordReplaysWrongFalsely : Prop := coordReplaysRow.holds Try.pinned (OpenSpec.ofChange coordReplaysWrong)

/- THE SECOND FORM. 'bulk': how many values and letters a reading holds, each counted each time it is reached (what is shared counts as often as it is met; a slice's spare places count too). A statement '..UptoSaid' is the law's where the arguments, and the package variables that the reading takes, are together of bulk at most 1048576: NARROWER than '..Said'. Prove '..Said' where nothing that the law and all that it calls make is longer than what came in: it says more and counts as full. Else prove '..UptoSaid'. A law counts once. -/
mutual
def uptoBulk {H : Type} : DataW H → Nat
  | .lit (.string bytes) => bytes.length + 1
  | .lit _ => 1
  | .nil => 1
  | .ptr d => uptoBulk d + 1
  | .slice elems spare => uptoBulkAll elems + uptoBulkAll spare + 1
  | .agg parts => uptoBulkAll parts + 1
  | .iface _ d => uptoBulk d + 1
  | .map entries => uptoBulkEntries entries + 1
  | .held _ => 1
def uptoBulkAll {H : Type} : List (DataW H) → Nat
  | [] => 0
  | d :: r => uptoBulk d + uptoBulkAll r
def uptoBulkEntries {H : Type} : List (Lit × DataW H) → Nat
  | [] => 0
  | x :: r => uptoBulkEntry x + uptoBulkEntries r
def uptoBulkEntry {H : Type} : Lit × DataW H → Nat
  | (.string bytes, d) => bytes.length + uptoBulk d + 1
  | (_, d) => uptoBulk d + 1
 end
def uptoSmall : (H : Type) → List (DataW H) → Bool := fun _ ds => decide (uptoBulkAll ds ≤ 1048576)
def OpenSpec.upto (s : _root_.Go.ChangeSpec) : _root_.Go.OpenSpec := { _root_.Go.OpenSpec.ofChange s with cond := some uptoSmall }

/-- 'quicksetlaw08.CoordLeaves', WHERE WHAT IT READS IS OF BULK AT MOST 1048576: true; the input reads as it did. -/
def coordLeavesUptoRow : OpenClaim := { program := "ytbhkpmnieopddaa", sum := "2732d37751f7bb543702231c0ebde7e4acada1b22981333f46b449e6b4d03409", func := "quickset/quicksetlaw08.CoordLeaves", spec := "coordLeaves", inPlace := ["slices.overlaps[quickset/api.Lease]", "slices.overlaps[quickset/api.Span]"], unfollowed := true, recurses := true, apart := false, narrowed := true }
def CoordLeavesUptoSaid : Prop := coordLeavesUptoRow.holds Try.pinned (OpenSpec.upto coordLeavesSpec)

/-- 'quicksetlaw08.CoordOnce', WHERE WHAT IT READS IS OF BULK AT MOST 1048576: true; the input reads as it did. -/
def coordOnceUptoRow : OpenClaim := { program := "ytbhkpmnieopddaa", sum := "2732d37751f7bb543702231c0ebde7e4acada1b22981333f46b449e6b4d03409", func := "quickset/quicksetlaw08.CoordOnce", spec := "coordOnce", inPlace := ["slices.overlaps[quickset/api.Lease]", "slices.overlaps[quickset/api.Span]"], unfollowed := true, recurses := true, apart := false, narrowed := true }
def CoordOnceUptoSaid : Prop := coordOnceUptoRow.holds Try.pinned (OpenSpec.upto coordOnceSpec)

/-- 'quicksetlaw08.CoordSpans', WHERE WHAT IT READS IS OF BULK AT MOST 1048576: true; the input reads as it did. -/
def coordSpansUptoRow : OpenClaim := { program := "ytbhkpmnieopddaa", sum := "2732d37751f7bb543702231c0ebde7e4acada1b22981333f46b449e6b4d03409", func := "quickset/quicksetlaw08.CoordSpans", spec := "coordSpans", inPlace := ["slices.overlaps[quickset/api.Lease]", "slices.overlaps[quickset/api.Span]"], unfollowed := true, recurses := true, apart := false, narrowed := true }
def CoordSpansUptoSaid : Prop := coordSpansUptoRow.holds Try.pinned (OpenSpec.upto coordSpansSpec)

/-- 'quicksetlaw08.CoordReplays', WHERE WHAT IT READS IS OF BULK AT MOST 1048576: true; the input reads as it did. -/
def coordReplaysUptoRow : OpenClaim := { program := "ytbhkpmnieopddaa", sum := "2732d37751f7bb543702231c0ebde7e4acada1b22981333f46b449e6b4d03409", func := "quickset/quicksetlaw08.CoordReplays", spec := "coordReplays", inPlace := ["slices.overlaps[quickset/api.Lease]", "slices.overlaps[quickset/api.Span]"], unfollowed := true, recurses := true, apart := false, narrowed := true }
def CoordReplaysUptoSaid : Prop := coordReplaysUptoRow.holds Try.pinned (OpenSpec.upto coordReplaysSpec)

end Rows
end Go.Proofs.Ytbhkpmnieopddaa
