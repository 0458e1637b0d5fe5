/-
  No cell of these rows narrows 'for every input' (looked for: loops, veiled, ifaces, maps, wideKeys, modest, calm, conditions, laid).
  DERIVED. THE GIVEN ROWS OF THIS SEAT. 6 by the template 'for every input the law returns true; each argument reads behind the call as it read before'; 0 by the template 'total and deterministic' (their statements: YtnabelpgmcenlaaTotals.lean).
  GIVEN WITH THE SEED: the statements are not yours to turn. If you find one false, say at which input.
  Laid BY PROGRAM, IN A SANDBOX (cutbox-rows.mjs): the forced cells as the released guide's own fill.sh prints them over the translation 53668eff0b147e5a… (all of the seat's roots in one cut). By AI agents, Wed Nov 11 2026. No macro, syntax, notation, axiom, sorry.
-/
import Derived.Test.YtnabelpgmcenlaaChecked
import GoSem.Claim
import GoSem.ClaimJoined
import GoSem.ClaimMapViews
import Derived.JoinedTies
import Derived.KernelRfl
namespace Go.Proofs.Ytnabelpgmcenlaa
/- THE CELL 'sum', in the pinned program and in every row, IS THE sha256 OF THE DUMP (.gsa) THAT YtnabelpgmcenlaaProg.lean LOADS. Nothing in Lean hashes anything: it is a label: what it is worth is what the hold of that sum in a sandbox is worth. -/
noncomputable def Try.pinned : Pinned := { name := "ytnabelpgmcenlaa", sum := "53668eff0b147e5a0f5477107fbe37efb836be6e2a9a20ebc5b519149b443c37", checked := Try.checked }
namespace Rows
def none {H : Type} : Left H := { results := [], args := [] }

/-- 'quicksetlaw06.LeaseNext': WHATEVER THE INPUT: true; the input reads as it did. -/
def leaseNextSpec : ChangeSpec := { name := "leaseNext", fn := fun _ => fun
  | [d] => { results := [.lit (.bool true)], args := [d] }
  | _ => none }
def leaseNextRow : OpenClaim := { program := "ytnabelpgmcenlaa", sum := "53668eff0b147e5a0f5477107fbe37efb836be6e2a9a20ebc5b519149b443c37", func := "quickset/quicksetlaw06.LeaseNext", spec := "leaseNext", inPlace := ["slices.overlaps[quickset/api.Lease]"], unfollowed := true, recurses := true, apart := false }
def LeaseNextSaid : Prop := leaseNextRow.holds Try.pinned (OpenSpec.ofChange leaseNextSpec)

/-- ITS FALSE NEIGHBOUR: 'it returns false'. Refute it at one input. -/
def leaseNextWrong : ChangeSpec := { name := "leaseNext", fn := fun _ => fun
  | [d] => { results := [.lit (.bool false)], args := [d] }
  | _ => none }
def LeaseNextWrongFalsely : Prop := leaseNextRow.holds Try.pinned (OpenSpec.ofChange leaseNextWrong)

/-- 'quicksetlaw06.LeaseBack': WHATEVER THE INPUT: true; the input reads as it did. -/
def leaseBackSpec : ChangeSpec := { name := "leaseBack", fn := fun _ => fun
  | [d1, d2, d3, d4] => { results := [.lit (.bool true)], args := [d1, d2, d3, d4] }
  | _ => none }
def leaseBackRow : OpenClaim := { program := "ytnabelpgmcenlaa", sum := "53668eff0b147e5a0f5477107fbe37efb836be6e2a9a20ebc5b519149b443c37", func := "quickset/quicksetlaw06.LeaseBack", spec := "leaseBack", inPlace := ["slices.overlaps[quickset/api.Lease]"], unfollowed := true, recurses := true, apart := false }
def LeaseBackSaid : Prop := leaseBackRow.holds Try.pinned (OpenSpec.ofChange leaseBackSpec)

/-- ITS FALSE NEIGHBOUR: 'it returns false'. Refute it at one input. -/
def leaseBackWrong : ChangeSpec := { name := "leaseBack", fn := fun _ => fun
  | [d1, d2, d3, d4] => { results := [.lit (.bool false)], args := [d1, d2, d3, d4] }
  | _ => none }
def LeaseBackWrongFalsely : Prop := leaseBackRow.holds Try.pinned (OpenSpec.ofChange leaseBackWrong)

/-- 'quicksetlaw06.LeaseOnce': WHATEVER THE INPUT: true; the input reads as it did. -/
def leaseOnceSpec : ChangeSpec := { name := "leaseOnce", fn := fun _ => fun
  | [d] => { results := [.lit (.bool true)], args := [d] }
  | _ => none }
def leaseOnceRow : OpenClaim := { program := "ytnabelpgmcenlaa", sum := "53668eff0b147e5a0f5477107fbe37efb836be6e2a9a20ebc5b519149b443c37", func := "quickset/quicksetlaw06.LeaseOnce", spec := "leaseOnce", inPlace := ["slices.overlaps[quickset/api.Lease]"], unfollowed := true, recurses := true, apart := false }
def LeaseOnceSaid : Prop := leaseOnceRow.holds Try.pinned (OpenSpec.ofChange leaseOnceSpec)

/-- ITS FALSE NEIGHBOUR: 'it returns false'. Refute it at one input. -/
def leaseOnceWrong : ChangeSpec := { name := "leaseOnce", fn := fun _ => fun
  | [d] => { results := [.lit (.bool false)], args := [d] }
  | _ => none }
def LeaseOnceWrongFalsely : Prop := leaseOnceRow.holds Try.pinned (OpenSpec.ofChange leaseOnceWrong)

/-- 'quicksetlaw06.LeaseEnds': WHATEVER THE INPUT: true; the input reads as it did. -/
def leaseEndsSpec : ChangeSpec := { name := "leaseEnds", fn := fun _ => fun
  | [d1, d2] => { results := [.lit (.bool true)], args := [d1, d2] }
  | _ => none }
def leaseEndsRow : OpenClaim := { program := "ytnabelpgmcenlaa", sum := "53668eff0b147e5a0f5477107fbe37efb836be6e2a9a20ebc5b519149b443c37", func := "quickset/quicksetlaw06.LeaseEnds", spec := "leaseEnds", inPlace := ["slices.overlaps[quickset/api.Lease]"], unfollowed := true, recurses := true, apart := false }
def LeaseEndsSaid : Prop := leaseEndsRow.holds Try.pinned (OpenSpec.ofChange leaseEndsSpec)

/-- ITS FALSE NEIGHBOUR: 'it returns false'. Refute it at one input. -/
def leaseEndsWrong : ChangeSpec := { name := "leaseEnds", fn := fun _ => fun
  | [d1, d2] => { results := [.lit (.bool false)], args := [d1, d2] }
  | _ => none }
def LeaseEndsWrongFalsely : Prop := leaseEndsRow.holds Try.pinned (OpenSpec.ofChange leaseEndsWrong)

/-- 'quicksetlaw06.LeaseApart': WHATEVER THE INPUT: true; the input reads as it did. -/
def leaseApartSpec : ChangeSpec := { name := "leaseApart", fn := fun _ => fun
  | [d1, d2, d3] => { results := [.lit (.bool true)], args := [d1, d2, d3] }
  | _ => none }
def leaseApartRow : OpenClaim := { program := "ytnabelpgmcenlaa", sum := "53668eff0b147e5a0f5477107fbe37efb836be6e2a9a20ebc5b519149b443c37", func := "quickset/quicksetlaw06.LeaseApart", spec := "leaseApart", inPlace := ["slices.overlaps[quickset/api.Lease]"], unfollowed := true, recurses := true, apart := false }
def LeaseApartSaid : Prop := leaseApartRow.holds Try.pinned (OpenSpec.ofChange leaseApartSpec)

/-- ITS FALSE NEIGHBOUR: 'it returns false'. Refute it at one input. -/
def leaseApartWrong : ChangeSpec := { name := "leaseApart", fn := fun _ => fun
  | [d1, d2, d3] => { results := [.lit (.bool false)], args := [d1, d2, d3] }
  | _ => none }
def LeaseApartWrongFalsely : Prop := leaseApartRow.holds Try.pinned (OpenSpec.ofChange leaseApartWrong)

/-- 'quicksetlaw06.LeaseDoes': WHATEVER THE INPUT: true; the input reads as it did. -/
def leaseDoesSpec : ChangeSpec := { name := "leaseDoes", fn := fun _ => fun
  | [d1, d2, d3] => { results := [.lit (.bool true)], args := [d1, d2, d3] }
  | _ => none }
def leaseDoesRow : OpenClaim := { program := "ytnabelpgmcenlaa", sum := "53668eff0b147e5a0f5477107fbe37efb836be6e2a9a20ebc5b519149b443c37", func := "quickset/quicksetlaw06.LeaseDoes", spec := "leaseDoes", inPlace := ["slices.overlaps[quickset/api.Lease]"], unfollowed := true, recurses := true, apart := false }
def LeaseDoesSaid : Prop := leaseDoesRow.holds Try.pinned (OpenSpec.ofChange leaseDoesSpec)

/-- ITS FALSE NEIGHBOUR: 'it returns false'. Refute it at one input. -/
def leaseDoesWrong : ChangeSpec := { name := "leaseDoes", fn := fun _ => fun
  | [d1, d2, d3] => { results := [.lit (.bool false)], args := [d1, d2, d3] }
  | _ => none }
def LeaseDoesWrongFalsely : Prop := leaseDoesRow.holds Try.pinned (OpenSpec.ofChange leaseDoesWrong)

/- THE SECOND FORM. 'bulk': how many values and letters a reading holds, each counted each time it is reached (what is shared counts as often as it is met; a slice's spare places count too). A statement '..UptoSaid' is the law's where the arguments, and the package variables that the reading takes, are together of bulk at most 1048576: NARROWER than '..Said'. Prove '..Said' where nothing that the law and all that it calls make is longer than what came in: it says more and counts as full. Else prove '..UptoSaid'. A law counts once. -/
mutual
def uptoBulk {H : Type} : DataW H → Nat
  | .lit (.string bytes) => bytes.length + 1
  | .lit _ => 1
  | .nil => 1
  | .ptr d => uptoBulk d + 1
  | .slice elems spare => uptoBulkAll elems + uptoBulkAll spare + 1
  | .agg parts => uptoBulkAll parts + 1
  | .iface _ d => uptoBulk d + 1
  | .map entries => uptoBulkEntries entries + 1
  | .held _ => 1
def uptoBulkAll {H : Type} : List (DataW H) → Nat
  | [] => 0
  | d :: r => uptoBulk d + uptoBulkAll r
def uptoBulkEntries {H : Type} : List (Lit × DataW H) → Nat
  | [] => 0
  | x :: r => uptoBulkEntry x + uptoBulkEntries r
def uptoBulkEntry {H : Type} : Lit × DataW H → Nat
  | (.string bytes, d) => bytes.length + uptoBulk d + 1
  | (_, d) => uptoBulk d + 1
 end
def uptoSmall : (H : Type) → List (DataW H) → Bool := fun _ ds => decide (uptoBulkAll ds ≤ 1048576)
def OpenSpec.upto (s : _root_.Go.ChangeSpec) : _root_.Go.OpenSpec := { _root_.Go.OpenSpec.ofChange s with cond := some uptoSmall }

/-- 'quicksetlaw06.LeaseNext', WHERE WHAT IT READS IS OF BULK AT MOST 1048576: true; the input reads as it did. -/
def leaseNextUptoRow : OpenClaim := { program := "ytnabelpgmcenlaa", sum := "53668eff0b147e5a0f5477107fbe37efb836be6e2a9a20ebc5b519149b443c37", func := "quickset/quicksetlaw06.LeaseNext", spec := "leaseNext", inPlace := ["slices.overlaps[quickset/api.Lease]"], unfollowed := true, recurses := true, apart := false, narrowed := true }
def LeaseNextUptoSaid : Prop := leaseNextUptoRow.holds Try.pinned (OpenSpec.upto leaseNextSpec)

/-- 'quicksetlaw06.LeaseBack', WHERE WHAT IT READS IS OF BULK AT MOST 1048576: true; the input reads as it did. -/
def leaseBackUptoRow : OpenClaim := { program := "ytnabelpgmcenlaa", sum := "53668eff0b147e5a0f5477107fbe37efb836be6e2a9a20ebc5b519149b443c37", func := "quickset/quicksetlaw06.LeaseBack", spec := "leaseBack", inPlace := ["slices.overlaps[quickset/api.Lease]"], unfollowed := true, recurses := true, apart := false, narrowed := true }
def LeaseBackUptoSaid : Prop := leaseBackUptoRow.holds Try.pinned (OpenSpec.upto leaseBackSpec)

/-- 'quicksetlaw06.LeaseOnce', WHERE WHAT IT READS IS OF BULK AT MOST 1048576: true; the input reads as it did. -/
def leaseOnceUptoRow : OpenClaim := { program := "ytnabelpgmcenlaa", sum := "53668eff0b147e5a0f5477107fbe37efb836be6e2a9a20ebc5b519149b443c37", func := "quickset/quicksetlaw06.LeaseOnce", spec := "leaseOnce", inPlace := ["slices.overlaps[quickset/api.Lease]"], unfollowed := true, recurses := true, apart := false, narrowed := true }
def LeaseOnceUptoSaid : Prop := leaseOnceUptoRow.holds Try.pinned (OpenSpec.upto leaseOnceSpec)

/-- 'quicksetlaw06.LeaseEnds', WHERE WHAT IT READS IS OF BULK AT MOST 1048576: true; the input reads as it did. -/
def leaseEndsUptoRow : OpenClaim := { program := "ytnabelpgmcenlaa", sum := "53668eff0b147e5a0f5477107fbe37efb836be6e2a9a20ebc5b519149b443c37", func := "quickset/quicksetlaw06.LeaseEnds", spec := "leaseEnds", inPlace := ["slices.overlaps[quickset/api.Lease]"], unfollowed := true, recurses := true, apart := false, narrowed := true }
def LeaseEndsUptoSaid : Prop := leaseEndsUptoRow.holds Try.pinned (OpenSpec.upto leaseEndsSpec)

/-- 'quicksetlaw06.LeaseApart', WHERE WHAT IT READS IS OF BULK AT MOST 1048576: true; the input reads as it did. -/
def leaseApartUptoRow : OpenClaim := { program := "ytnabelpgmcenlaa", sum := "53668eff0b147e5a0f5477107fbe37efb836be6e2a9a20ebc5b519149b443c37", func := "quickset/quicksetlaw06.LeaseApart", spec := "leaseApart", inPlace := ["slices.overlaps[quickset/api.Lease]"], unfollowed := true, recurses := true, apart := false, narrowed := true }
def LeaseApartUptoSaid : Prop := leaseApartUptoRow.holds Try.pinned (OpenSpec.upto leaseApartSpec)

/-- 'quicksetlaw06.LeaseDoes', WHERE WHAT IT READS IS OF BULK AT MOST 1048576: true; the input reads as it did. -/
def leaseDoesUptoRow : OpenClaim := { program := "ytnabelpgmcenlaa", sum := "53668eff0b147e5a0f5477107fbe37efb836be6e2a9a20ebc5b519149b443c37", func := "quickset/quicksetlaw06.LeaseDoes", spec := "leaseDoes", inPlace := ["slices.overlaps[quickset/api.Lease]"], unfollowed := true, recurses := true, apart := false, narrowed := true }
def LeaseDoesUptoSaid : Prop := leaseDoesUptoRow.holds Try.pinned (OpenSpec.upto leaseDoesSpec)

end Rows
end Go.Proofs.Ytnabelpgmcenlaa
