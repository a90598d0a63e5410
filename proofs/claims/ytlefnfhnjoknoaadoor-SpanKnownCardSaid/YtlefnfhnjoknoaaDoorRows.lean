/-
  NARROWER THAN 'FOR EVERY INPUT', by the rows' own cells (each row's printed sentence says how): SpanKnown: laid.
  DERIVED. THE GIVEN ROWS OF THIS SEAT. 1 by the template 'for every input the law returns true; each argument reads behind the call as it read before'; 0 by the template 'total and deterministic' (their statements: YtlefnfhnjoknoaaDoorTotals.lean).
  GIVEN WITH THE SEED: the statements are not yours to turn. If you find one false, say at which input.
  Laid BY PROGRAM, IN A SANDBOX (cutbox-rows.mjs): the forced cells as the released guide's own fill.sh prints them over the translation e3255ed93df848b6… (all of the seat's roots in one cut). By AI agents, Wed Nov 11 2026. No macro, syntax, notation, axiom, sorry.
-/
import Derived.Test.YtlefnfhnjoknoaaDoorChecked
import GoSem.Claim
import GoSem.ClaimJoined
import GoSem.ClaimMapViews
import Derived.JoinedTies
import Derived.KernelRfl
namespace Go.Proofs.YtlefnfhnjoknoaaDoor
/- THE CELL 'sum', in the pinned program and in every row, IS THE sha256 OF THE DUMP (.gsa) THAT YtlefnfhnjoknoaaDoorProg.lean LOADS. Nothing in Lean hashes anything: it is a label: what it is worth is what the hold of that sum in a sandbox is worth. -/
noncomputable def Tryd.pinned : Pinned := { name := "ytlefnfhnjoknoaadoor", sum := "e3255ed93df848b63f7160fe9954e9bba894cc665ca13a8c85ce62276e387bde", checked := Tryd.checked }
namespace Rows
def none {H : Type} : Left H := { results := [], args := [] }

/- WHAT THE LISTED PACKAGE-LEVEL VARIABLES READ AS WHEN THE CALL BEGINS. Each datum BY PROGRAM (the guide's laid-datum.mjs) off the statement by which the dump's own 'gosem.cut.vars' lays the variable. In a bare row this is a premise. The card (YtlefnfhnjoknoaaDoorCards.lean) ties it to the program's text. -/
def laid_privhouse_schema_reserved {H : Type} : DataW H := .agg [.lit (.string [97, 98, 111, 118, 101]), .lit (.string [97, 110, 100]), .lit (.string [98, 97, 116, 99, 104]), .lit (.string [98, 101, 116, 119, 101, 101, 110]), .lit (.string [98, 105, 116, 115]), .lit (.string [98, 121]), .lit (.string [99, 111, 110, 115, 105, 115, 116, 101, 110, 116]), .lit (.string [99, 111, 117, 110, 116]), .lit (.string [101, 108, 115, 101]), .lit (.string [102, 97, 99, 116, 111, 114]), .lit (.string [102, 114, 111, 109]), .lit (.string [104, 105, 115, 116, 111, 103, 114, 97, 109]), .lit (.string [105, 100, 101, 110, 116, 105, 116, 121]), .lit (.string [105, 102]), .lit (.string [106, 111, 105, 110]), .lit (.string [107, 101, 101, 112]), .lit (.string [108, 97, 116, 101]), .lit (.string [108, 105, 109, 105, 116]), .lit (.string [109, 111, 100, 101]), .lit (.string [110, 111, 110, 101]), .lit (.string [110, 111, 116]), .lit (.string [111, 102]), .lit (.string [111, 110]), .lit (.string [111, 114]), .lit (.string [112, 101, 97, 107]), .lit (.string [112, 114, 101, 102, 105, 120]), .lit (.string [113, 117, 97, 110, 116, 105, 108, 101]), .lit (.string [114, 117, 110, 110, 105, 110, 103]), .lit (.string [115, 117, 109]), .lit (.string [116, 104, 101, 110]), .lit (.string [116, 111, 116, 97, 108]), .lit (.string [116, 114, 101, 101]), .lit (.string [117, 115, 105, 110, 103]), .lit (.string [119, 104, 101, 114, 101]), .lit (.string [119, 105, 116, 104])]

/-- 'privhouselaw17.SpanKnown': WHATEVER THE INPUT: true; the input reads as it did. -/
def spanKnownSpec : ChangeSpec := { name := "spanKnown", fn := fun _ => fun
  | [] => { results := [.lit (.bool true)], args := [] }
  | _ => none }
def spanKnownRow : OpenClaim := { program := "ytlefnfhnjoknoaadoor", sum := "e3255ed93df848b63f7160fe9954e9bba894cc665ca13a8c85ce62276e387bde", func := "privhouse/privhouselaw17.SpanKnown", spec := "spanKnown", unfollowed := true, recurses := true, named := ["privhouse/schema.reserved"], plainKeys := false, apart := false, laid := [("privhouse/schema.reserved", laid_privhouse_schema_reserved)] }
def SpanKnownSaid : Prop := spanKnownRow.holds Tryd.pinned (OpenSpec.ofChange spanKnownSpec)

/-- ITS FALSE NEIGHBOUR: 'it returns false'. Refute it at one input. -/
def spanKnownWrong : ChangeSpec := { name := "spanKnown", fn := fun _ => fun
  | [] => { results := [.lit (.bool false)], args := [] }
  | _ => none }
def SpanKnownWrongFalsely : Prop := spanKnownRow.holds Tryd.pinned (OpenSpec.ofChange spanKnownWrong)

/- THE SECOND FORM. 'bulk': how many values and letters a reading holds, each counted each time it is reached (what is shared counts as often as it is met; a slice's spare places count too). A statement '..UptoSaid' is the law's where the arguments, and the package variables that the reading takes, are together of bulk at most 1048576: NARROWER than '..Said'. Prove '..Said' where nothing that the law and all that it calls make is longer than what came in: it says more and counts as full. Else prove '..UptoSaid'. A law counts once. -/
mutual
def uptoBulk {H : Type} : DataW H → Nat
  | .lit (.string bytes) => bytes.length + 1
  | .lit _ => 1
  | .nil => 1
  | .ptr d => uptoBulk d + 1
  | .slice elems spare => uptoBulkAll elems + uptoBulkAll spare + 1
  | .agg parts => uptoBulkAll parts + 1
  | .iface _ d => uptoBulk d + 1
  | .map entries => uptoBulkEntries entries + 1
  | .held _ => 1
def uptoBulkAll {H : Type} : List (DataW H) → Nat
  | [] => 0
  | d :: r => uptoBulk d + uptoBulkAll r
def uptoBulkEntries {H : Type} : List (Lit × DataW H) → Nat
  | [] => 0
  | x :: r => uptoBulkEntry x + uptoBulkEntries r
def uptoBulkEntry {H : Type} : Lit × DataW H → Nat
  | (.string bytes, d) => bytes.length + uptoBulk d + 1
  | (_, d) => uptoBulk d + 1
 end
def uptoSmall : (H : Type) → List (DataW H) → Bool := fun _ ds => decide (uptoBulkAll ds ≤ 1048576)
def OpenSpec.upto (s : _root_.Go.ChangeSpec) : _root_.Go.OpenSpec := { _root_.Go.OpenSpec.ofChange s with cond := some uptoSmall }

/-- 'privhouselaw17.SpanKnown', WHERE WHAT IT READS IS OF BULK AT MOST 1048576: true; the input reads as it did. -/
def spanKnownUptoRow : OpenClaim := { program := "ytlefnfhnjoknoaadoor", sum := "e3255ed93df848b63f7160fe9954e9bba894cc665ca13a8c85ce62276e387bde", func := "privhouse/privhouselaw17.SpanKnown", spec := "spanKnown", unfollowed := true, recurses := true, named := ["privhouse/schema.reserved"], plainKeys := false, apart := false, laid := [("privhouse/schema.reserved", laid_privhouse_schema_reserved)], narrowed := true }
def SpanKnownUptoSaid : Prop := spanKnownUptoRow.holds Tryd.pinned (OpenSpec.upto spanKnownSpec)

end Rows
end Go.Proofs.YtlefnfhnjoknoaaDoor
