/-
  No cell of these rows narrows 'for every input' (looked for: loops, veiled, ifaces, maps, wideKeys, modest, calm, conditions, laid).
  DERIVED. THE GIVEN ROWS OF THIS SEAT. 6 by the template 'for every input the law returns true; each argument reads behind the call as it read before'; 0 by the template 'total and deterministic' (their statements: YtkomkiejakcilaaTotals.lean).
  GIVEN WITH THE SEED: the statements are not yours to turn. If you find one false, say at which input.
  Laid BY PROGRAM, IN A SANDBOX (cutbox-rows.mjs): the forced cells as the released guide's own fill.sh prints them over the translation b9edc888b4d7d511… (all of the seat's roots in one cut). By AI agents, Wed Nov 11 2026. No macro, syntax, notation, axiom, sorry.
-/
import Derived.Test.YtkomkiejakcilaaChecked
import GoSem.Claim
import GoSem.ClaimJoined
import GoSem.ClaimMapViews
import Derived.JoinedTies
import Derived.KernelRfl
namespace Go.Proofs.Ytkomkiejakcilaa
/- THE CELL 'sum', in the pinned program and in every row, IS THE sha256 OF THE DUMP (.gsa) THAT YtkomkiejakcilaaProg.lean LOADS. Nothing in Lean hashes anything: it is a label: what it is worth is what the hold of that sum in a sandbox is worth. -/
noncomputable def Try.pinned : Pinned := { name := "ytkomkiejakcilaa", sum := "b9edc888b4d7d5114e68139d4e3b9d9cc2b56df60a2136e6f27d93d79bf7cf40", checked := Try.checked }
namespace Rows
def none {H : Type} : Left H := { results := [], args := [] }

/-- 'privhouselaw26.TreeSums': WHATEVER THE INPUT: true; the input reads as it did. -/
def treeSumsSpec : ChangeSpec := { name := "treeSums", fn := fun _ => fun
  | [d] => { results := [.lit (.bool true)], args := [d] }
  | _ => none }
def treeSumsRow : OpenClaim := { program := "ytkomkiejakcilaa", sum := "b9edc888b4d7d5114e68139d4e3b9d9cc2b56df60a2136e6f27d93d79bf7cf40", func := "privhouse/privhouselaw26.TreeSums", spec := "treeSums", unfollowed := true, recurses := true, apart := false }
def TreeSumsSaid : Prop := treeSumsRow.holds Try.pinned (OpenSpec.ofChange treeSumsSpec)

/-- ITS FALSE NEIGHBOUR: 'it returns false'. Refute it at one input. -/
def treeSumsWrong : ChangeSpec := { name := "treeSums", fn := fun _ => fun
  | [d] => { results := [.lit (.bool false)], args := [d] }
  | _ => none }
def TreeSumsWrongFalsely : Prop := treeSumsRow.holds Try.pinned (OpenSpec.ofChange treeSumsWrong)

/-- 'privhouselaw26.TreeLinear': WHATEVER THE INPUT: true; the input reads as it did. -/
def treeLinearSpec : ChangeSpec := { name := "treeLinear", fn := fun _ => fun
  | [d1, d2, d3] => { results := [.lit (.bool true)], args := [d1, d2, d3] }
  | _ => none }
def treeLinearRow : OpenClaim := { program := "ytkomkiejakcilaa", sum := "b9edc888b4d7d5114e68139d4e3b9d9cc2b56df60a2136e6f27d93d79bf7cf40", func := "privhouse/privhouselaw26.TreeLinear", spec := "treeLinear", unfollowed := true, recurses := true, apart := false }
def TreeLinearSaid : Prop := treeLinearRow.holds Try.pinned (OpenSpec.ofChange treeLinearSpec)

/-- ITS FALSE NEIGHBOUR: 'it returns false'. Refute it at one input. -/
def treeLinearWrong : ChangeSpec := { name := "treeLinear", fn := fun _ => fun
  | [d1, d2, d3] => { results := [.lit (.bool false)], args := [d1, d2, d3] }
  | _ => none }
def TreeLinearWrongFalsely : Prop := treeLinearRow.holds Try.pinned (OpenSpec.ofChange treeLinearWrong)

/-- 'privhouselaw26.TreeChange': WHATEVER THE INPUT: true; the input reads as it did. -/
def treeChangeSpec : ChangeSpec := { name := "treeChange", fn := fun _ => fun
  | [d1, d2, d3] => { results := [.lit (.bool true)], args := [d1, d2, d3] }
  | _ => none }
def treeChangeRow : OpenClaim := { program := "ytkomkiejakcilaa", sum := "b9edc888b4d7d5114e68139d4e3b9d9cc2b56df60a2136e6f27d93d79bf7cf40", func := "privhouse/privhouselaw26.TreeChange", spec := "treeChange", unfollowed := true, recurses := true, apart := false }
def TreeChangeSaid : Prop := treeChangeRow.holds Try.pinned (OpenSpec.ofChange treeChangeSpec)

/-- ITS FALSE NEIGHBOUR: 'it returns false'. Refute it at one input. -/
def treeChangeWrong : ChangeSpec := { name := "treeChange", fn := fun _ => fun
  | [d1, d2, d3] => { results := [.lit (.bool false)], args := [d1, d2, d3] }
  | _ => none }
def TreeChangeWrongFalsely : Prop := treeChangeRow.holds Try.pinned (OpenSpec.ofChange treeChangeWrong)

/-- 'privhouselaw26.TreeNames': WHATEVER THE INPUT: true; the input reads as it did. -/
def treeNamesSpec : ChangeSpec := { name := "treeNames", fn := fun _ => fun
  | [] => { results := [.lit (.bool true)], args := [] }
  | _ => none }
def treeNamesRow : OpenClaim := { program := "ytkomkiejakcilaa", sum := "b9edc888b4d7d5114e68139d4e3b9d9cc2b56df60a2136e6f27d93d79bf7cf40", func := "privhouse/privhouselaw26.TreeNames", spec := "treeNames", unfollowed := true, recurses := true, apart := false }
def TreeNamesSaid : Prop := treeNamesRow.holds Try.pinned (OpenSpec.ofChange treeNamesSpec)

/-- ITS FALSE NEIGHBOUR: 'it returns false'. Refute it at one input. -/
def treeNamesWrong : ChangeSpec := { name := "treeNames", fn := fun _ => fun
  | [] => { results := [.lit (.bool false)], args := [] }
  | _ => none }
def TreeNamesWrongFalsely : Prop := treeNamesRow.holds Try.pinned (OpenSpec.ofChange treeNamesWrong)

/-- 'privhouselaw26.TreeCalls': WHATEVER THE INPUT: true; the input reads as it did. -/
def treeCallsSpec : ChangeSpec := { name := "treeCalls", fn := fun _ => fun
  | [d1, d2, d3, d4] => { results := [.lit (.bool true)], args := [d1, d2, d3, d4] }
  | _ => none }
def treeCallsRow : OpenClaim := { program := "ytkomkiejakcilaa", sum := "b9edc888b4d7d5114e68139d4e3b9d9cc2b56df60a2136e6f27d93d79bf7cf40", func := "privhouse/privhouselaw26.TreeCalls", spec := "treeCalls", unfollowed := true, recurses := true, apart := false }
def TreeCallsSaid : Prop := treeCallsRow.holds Try.pinned (OpenSpec.ofChange treeCallsSpec)

/-- ITS FALSE NEIGHBOUR: 'it returns false'. Refute it at one input. -/
def treeCallsWrong : ChangeSpec := { name := "treeCalls", fn := fun _ => fun
  | [d1, d2, d3, d4] => { results := [.lit (.bool false)], args := [d1, d2, d3, d4] }
  | _ => none }
def TreeCallsWrongFalsely : Prop := treeCallsRow.holds Try.pinned (OpenSpec.ofChange treeCallsWrong)

/-- 'privhouselaw26.TreeCovers': WHATEVER THE INPUT: true; the input reads as it did. -/
def treeCoversSpec : ChangeSpec := { name := "treeCovers", fn := fun _ => fun
  | [d1, d2] => { results := [.lit (.bool true)], args := [d1, d2] }
  | _ => none }
def treeCoversRow : OpenClaim := { program := "ytkomkiejakcilaa", sum := "b9edc888b4d7d5114e68139d4e3b9d9cc2b56df60a2136e6f27d93d79bf7cf40", func := "privhouse/privhouselaw26.TreeCovers", spec := "treeCovers", unfollowed := true, recurses := true, apart := false }
def TreeCoversSaid : Prop := treeCoversRow.holds Try.pinned (OpenSpec.ofChange treeCoversSpec)

/-- ITS FALSE NEIGHBOUR: 'it returns false'. Refute it at one input. -/
def treeCoversWrong : ChangeSpec := { name := "treeCovers", fn := fun _ => fun
  | [d1, d2] => { results := [.lit (.bool false)], args := [d1, d2] }
  | _ => none }
def TreeCoversWrongFalsely : Prop := treeCoversRow.holds Try.pinned (OpenSpec.ofChange treeCoversWrong)

/- THE SECOND FORM. 'bulk': how many values and letters a reading holds, each counted each time it is reached (what is shared counts as often as it is met; a slice's spare places count too). A statement '..UptoSaid' is the law's where the arguments, and the package variables that the reading takes, are together of bulk at most 1048576: NARROWER than '..Said'. Prove '..Said' where nothing that the law and all that it calls make is longer than what came in: it says more and counts as full. Else prove '..UptoSaid'. A law counts once. -/
mutual
def uptoBulk {H : Type} : DataW H → Nat
  | .lit (.string bytes) => bytes.length + 1
  | .lit _ => 1
  | .nil => 1
  | .ptr d => uptoBulk d + 1
  | .slice elems spare => uptoBulkAll elems + uptoBulkAll spare + 1
  | .agg parts => uptoBulkAll parts + 1
  | .iface _ d => uptoBulk d + 1
  | .map entries => uptoBulkEntries entries + 1
  | .held _ => 1
def uptoBulkAll {H : Type} : List (DataW H) → Nat
  | [] => 0
  | d :: r => uptoBulk d + uptoBulkAll r
def uptoBulkEntries {H : Type} : List (Lit × DataW H) → Nat
  | [] => 0
  | x :: r => uptoBulkEntry x + uptoBulkEntries r
def uptoBulkEntry {H : Type} : Lit × DataW H → Nat
  | (.string bytes, d) => bytes.length + uptoBulk d + 1
  | (_, d) => uptoBulk d + 1
 end
def uptoSmall : (H : Type) → List (DataW H) → Bool := fun _ ds => decide (uptoBulkAll ds ≤ 1048576)
def OpenSpec.upto (s : _root_.Go.ChangeSpec) : _root_.Go.OpenSpec := { _root_.Go.OpenSpec.ofChange s with cond := some uptoSmall }

/-- 'privhouselaw26.TreeSums', WHERE WHAT IT READS IS OF BULK AT MOST 1048576: true; the input reads as it did. -/
def treeSumsUptoRow : OpenClaim := { program := "ytkomkiejakcilaa", sum := "b9edc888b4d7d5114e68139d4e3b9d9cc2b56df60a2136e6f27d93d79bf7cf40", func := "privhouse/privhouselaw26.TreeSums", spec := "treeSums", unfollowed := true, recurses := true, apart := false, narrowed := true }
def TreeSumsUptoSaid : Prop := treeSumsUptoRow.holds Try.pinned (OpenSpec.upto treeSumsSpec)

/-- 'privhouselaw26.TreeLinear', WHERE WHAT IT READS IS OF BULK AT MOST 1048576: true; the input reads as it did. -/
def treeLinearUptoRow : OpenClaim := { program := "ytkomkiejakcilaa", sum := "b9edc888b4d7d5114e68139d4e3b9d9cc2b56df60a2136e6f27d93d79bf7cf40", func := "privhouse/privhouselaw26.TreeLinear", spec := "treeLinear", unfollowed := true, recurses := true, apart := false, narrowed := true }
def TreeLinearUptoSaid : Prop := treeLinearUptoRow.holds Try.pinned (OpenSpec.upto treeLinearSpec)

/-- 'privhouselaw26.TreeChange', WHERE WHAT IT READS IS OF BULK AT MOST 1048576: true; the input reads as it did. -/
def treeChangeUptoRow : OpenClaim := { program := "ytkomkiejakcilaa", sum := "b9edc888b4d7d5114e68139d4e3b9d9cc2b56df60a2136e6f27d93d79bf7cf40", func := "privhouse/privhouselaw26.TreeChange", spec := "treeChange", unfollowed := true, recurses := true, apart := false, narrowed := true }
def TreeChangeUptoSaid : Prop := treeChangeUptoRow.holds Try.pinned (OpenSpec.upto treeChangeSpec)

/-- 'privhouselaw26.TreeNames', WHERE WHAT IT READS IS OF BULK AT MOST 1048576: true; the input reads as it did. -/
def treeNamesUptoRow : OpenClaim := { program := "ytkomkiejakcilaa", sum := "b9edc888b4d7d5114e68139d4e3b9d9cc2b56df60a2136e6f27d93d79bf7cf40", func := "privhouse/privhouselaw26.TreeNames", spec := "treeNames", unfollowed := true, recurses := true, apart := false, narrowed := true }
def TreeNamesUptoSaid : Prop := treeNamesUptoRow.holds Try.pinned (OpenSpec.upto treeNamesSpec)

/-- 'privhouselaw26.TreeCalls', WHERE WHAT IT READS IS OF BULK AT MOST 1048576: true; the input reads as it did. -/
def treeCallsUptoRow : OpenClaim := { program := "ytkomkiejakcilaa", sum := "b9edc888b4d7d5114e68139d4e3b9d9cc2b56df60a2136e6f27d93d79bf7cf40", func := "privhouse/privhouselaw26.TreeCalls", spec := "treeCalls", unfollowed := true, recurses := true, apart := false, narrowed := true }
def TreeCallsUptoSaid : Prop := treeCallsUptoRow.holds Try.pinned (OpenSpec.upto treeCallsSpec)

/-- 'privhouselaw26.TreeCovers', WHERE WHAT IT READS IS OF BULK AT MOST 1048576: true; the input reads as it did. -/
def treeCoversUptoRow : OpenClaim := { program := "ytkomkiejakcilaa", sum := "b9edc888b4d7d5114e68139d4e3b9d9cc2b56df60a2136e6f27d93d79bf7cf40", func := "privhouse/privhouselaw26.TreeCovers", spec := "treeCovers", unfollowed := true, recurses := true, apart := false, narrowed := true }
def TreeCoversUptoSaid : Prop := treeCoversUptoRow.holds Try.pinned (OpenSpec.upto treeCoversSpec)

end Rows
end Go.Proofs.Ytkomkiejakcilaa
