/-
  No cell of these rows narrows 'for every input' (looked for: loops, veiled, ifaces, maps, wideKeys, modest, calm, conditions, laid).
  DERIVED. THE GIVEN ROWS OF THIS SEAT. 4 by the template 'for every input the law returns true; each argument reads behind the call as it read before'; 0 by the template 'total and deterministic' (their statements: YtajppkjbmiemhaaTotals.lean).
  GIVEN WITH THE SEED: the statements are not yours to turn. If you find one false, say at which input.
  Laid BY PROGRAM, IN A SANDBOX (cutbox-rows.mjs): the forced cells as the released guide's own fill.sh prints them over the translation ad6720de1dc0b158… (all of the seat's roots in one cut). By AI agents, Wed Nov 11 2026. No macro, syntax, notation, axiom, sorry.
-/
import Derived.Test.YtajppkjbmiemhaaChecked
import GoSem.Claim
import GoSem.ClaimJoined
import GoSem.ClaimMapViews
import Derived.JoinedTies
import Derived.KernelRfl
namespace Go.Proofs.Ytajppkjbmiemhaa
/- THE CELL 'sum', in the pinned program and in every row, IS THE sha256 OF THE DUMP (.gsa) THAT YtajppkjbmiemhaaProg.lean LOADS. Nothing in Lean hashes anything: it is a label: what it is worth is what the hold of that sum in a sandbox is worth. -/
noncomputable def Try.pinned : Pinned := { name := "ytajppkjbmiemhaa", sum := "ad6720de1dc0b1583b7235965dfb13eb105f98115f75980ecad96f874d3f867f", checked := Try.checked }
namespace Rows
def none {H : Type} : Left H := { results := [], args := [] }

/-- 'quicksetlaw20.HistoryBends': WHATEVER THE INPUT: true; the input reads as it did. -/
def historyBendsSpec : ChangeSpec := { name := "historyBends", fn := fun _ => fun
  | [d1, d2, d3] => { results := [.lit (.bool true)], args := [d1, d2, d3] }
  | _ => none }
def historyBendsRow : OpenClaim := { program := "ytajppkjbmiemhaa", sum := "ad6720de1dc0b1583b7235965dfb13eb105f98115f75980ecad96f874d3f867f", func := "quickset/quicksetlaw20.HistoryBends", spec := "historyBends", plainKeys := false, apart := false }
def HistoryBendsSaid : Prop := historyBendsRow.holds Try.pinned (OpenSpec.ofChange historyBendsSpec)

/-- ITS FALSE NEIGHBOUR: 'it returns false'. Refute it at one input. -/
def historyBendsWrong : ChangeSpec := { name := "historyBends", fn := fun _ => fun
  | [d1, d2, d3] => { results := [.lit (.bool false)], args := [d1, d2, d3] }
  | _ => none }
def HistoryBendsWrongFalsely : Prop := historyBendsRow.holds Try.pinned (OpenSpec.ofChange historyBendsWrong)

/-- 'quicksetlaw20.HistoryOrders': WHATEVER THE INPUT: true; the input reads as it did. -/
def historyOrdersSpec : ChangeSpec := { name := "historyOrders", fn := fun _ => fun
  | [d] => { results := [.lit (.bool true)], args := [d] }
  | _ => none }
def historyOrdersRow : OpenClaim := { program := "ytajppkjbmiemhaa", sum := "ad6720de1dc0b1583b7235965dfb13eb105f98115f75980ecad96f874d3f867f", func := "quickset/quicksetlaw20.HistoryOrders", spec := "historyOrders", unfollowed := true, recurses := true, plainKeys := false, apart := false }
def HistoryOrdersSaid : Prop := historyOrdersRow.holds Try.pinned (OpenSpec.ofChange historyOrdersSpec)

/-- ITS FALSE NEIGHBOUR: 'it returns false'. Refute it at one input. -/
def historyOrdersWrong : ChangeSpec := { name := "historyOrders", fn := fun _ => fun
  | [d] => { results := [.lit (.bool false)], args := [d] }
  | _ => none }
def HistoryOrdersWrongFalsely : Prop := historyOrdersRow.holds Try.pinned (OpenSpec.ofChange historyOrdersWrong)

/-- 'quicksetlaw20.HistoryParts': WHATEVER THE INPUT: true; the input reads as it did. -/
def historyPartsSpec : ChangeSpec := { name := "historyParts", fn := fun _ => fun
  | [d1, d2] => { results := [.lit (.bool true)], args := [d1, d2] }
  | _ => none }
def historyPartsRow : OpenClaim := { program := "ytajppkjbmiemhaa", sum := "ad6720de1dc0b1583b7235965dfb13eb105f98115f75980ecad96f874d3f867f", func := "quickset/quicksetlaw20.HistoryParts", spec := "historyParts", unfollowed := true, recurses := true, plainKeys := false, apart := false }
def HistoryPartsSaid : Prop := historyPartsRow.holds Try.pinned (OpenSpec.ofChange historyPartsSpec)

/-- ITS FALSE NEIGHBOUR: 'it returns false'. Refute it at one input. -/
def historyPartsWrong : ChangeSpec := { name := "historyParts", fn := fun _ => fun
  | [d1, d2] => { results := [.lit (.bool false)], args := [d1, d2] }
  | _ => none }
def HistoryPartsWrongFalsely : Prop := historyPartsRow.holds Try.pinned (OpenSpec.ofChange historyPartsWrong)

/-- 'quicksetlaw20.HistoryLast': WHATEVER THE INPUT: true; the input reads as it did. -/
def historyLastSpec : ChangeSpec := { name := "historyLast", fn := fun _ => fun
  | [d1, d2] => { results := [.lit (.bool true)], args := [d1, d2] }
  | _ => none }
def historyLastRow : OpenClaim := { program := "ytajppkjbmiemhaa", sum := "ad6720de1dc0b1583b7235965dfb13eb105f98115f75980ecad96f874d3f867f", func := "quickset/quicksetlaw20.HistoryLast", spec := "historyLast", unfollowed := true, recurses := true, plainKeys := false, apart := false }
def HistoryLastSaid : Prop := historyLastRow.holds Try.pinned (OpenSpec.ofChange historyLastSpec)

/-- ITS FALSE NEIGHBOUR: 'it returns false'. Refute it at one input. -/
def historyLastWrong : ChangeSpec := { name := "historyLast", fn := fun _ => fun
  | [d1, d2] => { results := [.lit (.bool false)], args := [d1, d2] }
  | _ => none }
def HistoryLastWrongFalsely : Prop := historyLastRow.holds Try.pinned (OpenSpec.ofChange historyLastWrong)

/- THE SECOND FORM. 'bulk': how many values and letters a reading holds, each counted each time it is reached (what is shared counts as often as it is met; a slice's spare places count too). A statement '..UptoSaid' is the law's where the arguments, and the package variables that the reading takes, are together of bulk at most 1048576: NARROWER than '..Said'. Prove '..Said' where nothing that the law and all that it calls make is longer than what came in: it says more and counts as full. Else prove '..UptoSaid'. A law counts once. -/
mutual
def uptoBulk {H : Type} : DataW H → Nat
  | .lit (.string bytes) => bytes.length + 1
  | .lit _ => 1
  | .nil => 1
  | .ptr d => uptoBulk d + 1
  | .slice elems spare => uptoBulkAll elems + uptoBulkAll spare + 1
  | .agg parts => uptoBulkAll parts + 1
  | .iface _ d => uptoBulk d + 1
  | .map entries => uptoBulkEntries entries + 1
  | .held _ => 1
def uptoBulkAll {H : Type} : List (DataW H) → Nat
  | [] => 0
  | d :: r => uptoBulk d + uptoBulkAll r
def uptoBulkEntries {H : Type} : List (Lit × DataW H) → Nat
  | [] => 0
  | x :: r => uptoBulkEntry x + uptoBulkEntries r
def uptoBulkEntry {H : Type} : Lit × DataW H → Nat
  | (.string bytes, d) => bytes.length + uptoBulk d + 1
  | (_, d) => uptoBulk d + 1
 end
def uptoSmall : (H : Type) → List (DataW H) → Bool := fun _ ds => decide (uptoBulkAll ds ≤ 1048576)
def OpenSpec.upto (s : _root_.Go.ChangeSpec) : _root_.Go.OpenSpec := { _root_.Go.OpenSpec.ofChange s with cond := some uptoSmall }

/-- 'quicksetlaw20.HistoryBends', WHERE WHAT IT READS IS OF BULK AT MOST 1048576: true; the input reads as it did. -/
def historyBendsUptoRow : OpenClaim := { program := "ytajppkjbmiemhaa", sum := "ad6720de1dc0b1583b7235965dfb13eb105f98115f75980ecad96f874d3f867f", func := "quickset/quicksetlaw20.HistoryBends", spec := "historyBends", plainKeys := false, apart := false, narrowed := true }
def HistoryBendsUptoSaid : Prop := historyBendsUptoRow.holds Try.pinned (OpenSpec.upto historyBendsSpec)

/-- 'quicksetlaw20.HistoryOrders', WHERE WHAT IT READS IS OF BULK AT MOST 1048576: true; the input reads as it did. -/
def historyOrdersUptoRow : OpenClaim := { program := "ytajppkjbmiemhaa", sum := "ad6720de1dc0b1583b7235965dfb13eb105f98115f75980ecad96f874d3f867f", func := "quickset/quicksetlaw20.HistoryOrders", spec := "historyOrders", unfollowed := true, recurses := true, plainKeys := false, apart := false, narrowed := true }
def HistoryOrdersUptoSaid : Prop := historyOrdersUptoRow.holds Try.pinned (OpenSpec.upto historyOrdersSpec)

/-- 'quicksetlaw20.HistoryParts', WHERE WHAT IT READS IS OF BULK AT MOST 1048576: true; the input reads as it did. -/
def historyPartsUptoRow : OpenClaim := { program := "ytajppkjbmiemhaa", sum := "ad6720de1dc0b1583b7235965dfb13eb105f98115f75980ecad96f874d3f867f", func := "quickset/quicksetlaw20.HistoryParts", spec := "historyParts", unfollowed := true, recurses := true, plainKeys := false, apart := false, narrowed := true }
def HistoryPartsUptoSaid : Prop := historyPartsUptoRow.holds Try.pinned (OpenSpec.upto historyPartsSpec)

/-- 'quicksetlaw20.HistoryLast', WHERE WHAT IT READS IS OF BULK AT MOST 1048576: true; the input reads as it did. -/
def historyLastUptoRow : OpenClaim := { program := "ytajppkjbmiemhaa", sum := "ad6720de1dc0b1583b7235965dfb13eb105f98115f75980ecad96f874d3f867f", func := "quickset/quicksetlaw20.HistoryLast", spec := "historyLast", unfollowed := true, recurses := true, plainKeys := false, apart := false, narrowed := true }
def HistoryLastUptoSaid : Prop := historyLastUptoRow.holds Try.pinned (OpenSpec.upto historyLastSpec)

end Rows
end Go.Proofs.Ytajppkjbmiemhaa
