/-
  No cell of these rows narrows 'for every input' (looked for: loops, veiled, ifaces, maps, wideKeys, modest, calm, conditions, laid).
  DERIVED. THE GIVEN ROWS OF THIS SEAT. 5 by the template 'for every input the law returns true; each argument reads behind the call as it read before'; 0 by the template 'total and deterministic' (their statements: YtnmjdelnllchdaaTotals.lean).
  GIVEN WITH THE SEED: the statements are not yours to turn. If you find one false, say at which input.
  Laid BY PROGRAM, IN A SANDBOX (cutbox-rows.mjs): the forced cells as the released guide's own fill.sh prints them over the translation b114a8d7c4112f38… (all of the seat's roots in one cut). By AI agents, Wed Nov 11 2026. No macro, syntax, notation, axiom, sorry.
-/
import Derived.Test.YtnmjdelnllchdaaChecked
import GoSem.Claim
import GoSem.ClaimJoined
import GoSem.ClaimMapViews
import Derived.JoinedTies
import Derived.KernelRfl
namespace Go.Proofs.Ytnmjdelnllchdaa
/- THE CELL 'sum', in the pinned program and in every row, IS THE sha256 OF THE DUMP (.gsa) THAT YtnmjdelnllchdaaProg.lean LOADS. Nothing in Lean hashes anything: it is a label: what it is worth is what the hold of that sum in a sandbox is worth. -/
noncomputable def Try.pinned : Pinned := { name := "ytnmjdelnllchdaa", sum := "b114a8d7c4112f389cd2e0c8aca5b9ef7c6e583ac4f01678b28cc7582b91591e", checked := Try.checked }
namespace Rows
def none {H : Type} : Left H := { results := [], args := [] }

/-- 'quicksetlaw12.LiveSkips': WHATEVER THE INPUT: true; the input reads as it did. -/
def liveSkipsSpec : ChangeSpec := { name := "liveSkips", fn := fun _ => fun
  | [d1, d2, d3] => { results := [.lit (.bool true)], args := [d1, d2, d3] }
  | _ => none }
def liveSkipsRow : OpenClaim := { program := "ytnmjdelnllchdaa", sum := "b114a8d7c4112f389cd2e0c8aca5b9ef7c6e583ac4f01678b28cc7582b91591e", func := "quickset/quicksetlaw12.LiveSkips", spec := "liveSkips", unfollowed := true, recurses := true, apart := false }
def LiveSkipsSaid : Prop := liveSkipsRow.holds Try.pinned (OpenSpec.ofChange liveSkipsSpec)

/-- ITS FALSE NEIGHBOUR: 'it returns false'. Refute it at one input. -/
def liveSkipsWrong : ChangeSpec := { name := "liveSkips", fn := fun _ => fun
  | [d1, d2, d3] => { results := [.lit (.bool false)], args := [d1, d2, d3] }
  | _ => none }
def LiveSkipsWrongFalsely : Prop := liveSkipsRow.holds Try.pinned (OpenSpec.ofChange liveSkipsWrong)

/-- 'quicksetlaw12.LivePlans': WHATEVER THE INPUT: true; the input reads as it did. -/
def livePlansSpec : ChangeSpec := { name := "livePlans", fn := fun _ => fun
  | [d1, d2, d3, d4] => { results := [.lit (.bool true)], args := [d1, d2, d3, d4] }
  | _ => none }
def livePlansRow : OpenClaim := { program := "ytnmjdelnllchdaa", sum := "b114a8d7c4112f389cd2e0c8aca5b9ef7c6e583ac4f01678b28cc7582b91591e", func := "quickset/quicksetlaw12.LivePlans", spec := "livePlans", unfollowed := true, recurses := true, apart := false }
def LivePlansSaid : Prop := livePlansRow.holds Try.pinned (OpenSpec.ofChange livePlansSpec)

/-- ITS FALSE NEIGHBOUR: 'it returns false'. Refute it at one input. -/
def livePlansWrong : ChangeSpec := { name := "livePlans", fn := fun _ => fun
  | [d1, d2, d3, d4] => { results := [.lit (.bool false)], args := [d1, d2, d3, d4] }
  | _ => none }
def LivePlansWrongFalsely : Prop := livePlansRow.holds Try.pinned (OpenSpec.ofChange livePlansWrong)

/-- 'quicksetlaw12.LiveWaste': WHATEVER THE INPUT: true; the input reads as it did. -/
def liveWasteSpec : ChangeSpec := { name := "liveWaste", fn := fun _ => fun
  | [d1, d2] => { results := [.lit (.bool true)], args := [d1, d2] }
  | _ => none }
def liveWasteRow : OpenClaim := { program := "ytnmjdelnllchdaa", sum := "b114a8d7c4112f389cd2e0c8aca5b9ef7c6e583ac4f01678b28cc7582b91591e", func := "quickset/quicksetlaw12.LiveWaste", spec := "liveWaste", unfollowed := true, recurses := true, apart := false }
def LiveWasteSaid : Prop := liveWasteRow.holds Try.pinned (OpenSpec.ofChange liveWasteSpec)

/-- ITS FALSE NEIGHBOUR: 'it returns false'. Refute it at one input. -/
def liveWasteWrong : ChangeSpec := { name := "liveWaste", fn := fun _ => fun
  | [d1, d2] => { results := [.lit (.bool false)], args := [d1, d2] }
  | _ => none }
def LiveWasteWrongFalsely : Prop := liveWasteRow.holds Try.pinned (OpenSpec.ofChange liveWasteWrong)

/-- 'quicksetlaw12.LiveFree': WHATEVER THE INPUT: true; the input reads as it did. -/
def liveFreeSpec : ChangeSpec := { name := "liveFree", fn := fun _ => fun
  | [d1, d2] => { results := [.lit (.bool true)], args := [d1, d2] }
  | _ => none }
def liveFreeRow : OpenClaim := { program := "ytnmjdelnllchdaa", sum := "b114a8d7c4112f389cd2e0c8aca5b9ef7c6e583ac4f01678b28cc7582b91591e", func := "quickset/quicksetlaw12.LiveFree", spec := "liveFree", unfollowed := true, recurses := true, apart := false }
def LiveFreeSaid : Prop := liveFreeRow.holds Try.pinned (OpenSpec.ofChange liveFreeSpec)

/-- ITS FALSE NEIGHBOUR: 'it returns false'. Refute it at one input. -/
def liveFreeWrong : ChangeSpec := { name := "liveFree", fn := fun _ => fun
  | [d1, d2] => { results := [.lit (.bool false)], args := [d1, d2] }
  | _ => none }
def LiveFreeWrongFalsely : Prop := liveFreeRow.holds Try.pinned (OpenSpec.ofChange liveFreeWrong)

/-- 'quicksetlaw12.LiveCounts': WHATEVER THE INPUT: true; the input reads as it did. -/
def liveCountsSpec : ChangeSpec := { name := "liveCounts", fn := fun _ => fun
  | [d1, d2] => { results := [.lit (.bool true)], args := [d1, d2] }
  | _ => none }
def liveCountsRow : OpenClaim := { program := "ytnmjdelnllchdaa", sum := "b114a8d7c4112f389cd2e0c8aca5b9ef7c6e583ac4f01678b28cc7582b91591e", func := "quickset/quicksetlaw12.LiveCounts", spec := "liveCounts", unfollowed := true, recurses := true, apart := false }
def LiveCountsSaid : Prop := liveCountsRow.holds Try.pinned (OpenSpec.ofChange liveCountsSpec)

/-- ITS FALSE NEIGHBOUR: 'it returns false'. Refute it at one input. -/
def liveCountsWrong : ChangeSpec := { name := "liveCounts", fn := fun _ => fun
  | [d1, d2] => { results := [.lit (.bool false)], args := [d1, d2] }
  | _ => none }
def LiveCountsWrongFalsely : Prop := liveCountsRow.holds Try.pinned (OpenSpec.ofChange liveCountsWrong)

/- THE SECOND FORM. 'bulk': how many values and letters a reading holds, each counted each time it is reached (what is shared counts as often as it is met; a slice's spare places count too). A statement '..UptoSaid' is the law's where the arguments, and the package variables that the reading takes, are together of bulk at most 1048576: NARROWER than '..Said'. Prove '..Said' where nothing that the law and all that it calls make is longer than what came in: it says more and counts as full. Else prove '..UptoSaid'. A law counts once. -/
mutual
def uptoBulk {H : Type} : DataW H → Nat
  | .lit (.string bytes) => bytes.length + 1
  | .lit _ => 1
  | .nil => 1
  | .ptr d => uptoBulk d + 1
  | .slice elems spare => uptoBulkAll elems + uptoBulkAll spare + 1
  | .agg parts => uptoBulkAll parts + 1
  | .iface _ d => uptoBulk d + 1
  | .map entries => uptoBulkEntries entries + 1
  | .held _ => 1
def uptoBulkAll {H : Type} : List (DataW H) → Nat
  | [] => 0
  | d :: r => uptoBulk d + uptoBulkAll r
def uptoBulkEntries {H : Type} : List (Lit × DataW H) → Nat
  | [] => 0
  | x :: r => uptoBulkEntry x + uptoBulkEntries r
def uptoBulkEntry {H : Type} : Lit × DataW H → Nat
  | (.string bytes, d) => bytes.length + uptoBulk d + 1
  | (_, d) => uptoBulk d + 1
 end
def uptoSmall : (H : Type) → List (DataW H) → Bool := fun _ ds => decide (uptoBulkAll ds ≤ 1048576)
def OpenSpec.upto (s : _root_.Go.ChangeSpec) : _root_.Go.OpenSpec := { _root_.Go.OpenSpec.ofChange s with cond := some uptoSmall }

/-- 'quicksetlaw12.LiveSkips', WHERE WHAT IT READS IS OF BULK AT MOST 1048576: true; the input reads as it did. -/
def liveSkipsUptoRow : OpenClaim := { program := "ytnmjdelnllchdaa", sum := "b114a8d7c4112f389cd2e0c8aca5b9ef7c6e583ac4f01678b28cc7582b91591e", func := "quickset/quicksetlaw12.LiveSkips", spec := "liveSkips", unfollowed := true, recurses := true, apart := false, narrowed := true }
def LiveSkipsUptoSaid : Prop := liveSkipsUptoRow.holds Try.pinned (OpenSpec.upto liveSkipsSpec)

/-- 'quicksetlaw12.LivePlans', WHERE WHAT IT READS IS OF BULK AT MOST 1048576: true; the input reads as it did. -/
def livePlansUptoRow : OpenClaim := { program := "ytnmjdelnllchdaa", sum := "b114a8d7c4112f389cd2e0c8aca5b9ef7c6e583ac4f01678b28cc7582b91591e", func := "quickset/quicksetlaw12.LivePlans", spec := "livePlans", unfollowed := true, recurses := true, apart := false, narrowed := true }
def LivePlansUptoSaid : Prop := livePlansUptoRow.holds Try.pinned (OpenSpec.upto livePlansSpec)

/-- 'quicksetlaw12.LiveWaste', WHERE WHAT IT READS IS OF BULK AT MOST 1048576: true; the input reads as it did. -/
def liveWasteUptoRow : OpenClaim := { program := "ytnmjdelnllchdaa", sum := "b114a8d7c4112f389cd2e0c8aca5b9ef7c6e583ac4f01678b28cc7582b91591e", func := "quickset/quicksetlaw12.LiveWaste", spec := "liveWaste", unfollowed := true, recurses := true, apart := false, narrowed := true }
def LiveWasteUptoSaid : Prop := liveWasteUptoRow.holds Try.pinned (OpenSpec.upto liveWasteSpec)

/-- 'quicksetlaw12.LiveFree', WHERE WHAT IT READS IS OF BULK AT MOST 1048576: true; the input reads as it did. -/
def liveFreeUptoRow : OpenClaim := { program := "ytnmjdelnllchdaa", sum := "b114a8d7c4112f389cd2e0c8aca5b9ef7c6e583ac4f01678b28cc7582b91591e", func := "quickset/quicksetlaw12.LiveFree", spec := "liveFree", unfollowed := true, recurses := true, apart := false, narrowed := true }
def LiveFreeUptoSaid : Prop := liveFreeUptoRow.holds Try.pinned (OpenSpec.upto liveFreeSpec)

/-- 'quicksetlaw12.LiveCounts', WHERE WHAT IT READS IS OF BULK AT MOST 1048576: true; the input reads as it did. -/
def liveCountsUptoRow : OpenClaim := { program := "ytnmjdelnllchdaa", sum := "b114a8d7c4112f389cd2e0c8aca5b9ef7c6e583ac4f01678b28cc7582b91591e", func := "quickset/quicksetlaw12.LiveCounts", spec := "liveCounts", unfollowed := true, recurses := true, apart := false, narrowed := true }
def LiveCountsUptoSaid : Prop := liveCountsUptoRow.holds Try.pinned (OpenSpec.upto liveCountsSpec)

end Rows
end Go.Proofs.Ytnmjdelnllchdaa
