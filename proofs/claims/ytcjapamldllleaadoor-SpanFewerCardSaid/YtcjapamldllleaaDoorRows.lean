/-
  NARROWER THAN 'FOR EVERY INPUT', by the rows' own cells (each row's printed sentence says how): SpanValues: laid · SpanBounds: laid · SpanHolds: laid · SpanEnds: laid · SpanFewer: laid.
  DERIVED. THE GIVEN ROWS OF THIS SEAT. 5 by the template 'for every input the law returns true; each argument reads behind the call as it read before'; 0 by the template 'total and deterministic' (their statements: YtcjapamldllleaaDoorTotals.lean).
  GIVEN WITH THE SEED: the statements are not yours to turn. If you find one false, say at which input.
  Laid BY PROGRAM, IN A SANDBOX (cutbox-rows.mjs): the forced cells as the released guide's own fill.sh prints them over the translation 9c9990c05c2058a4… (all of the seat's roots in one cut). By AI agents, Wed Nov 11 2026. No macro, syntax, notation, axiom, sorry.
-/
import Derived.Test.YtcjapamldllleaaDoorChecked
import GoSem.Claim
import GoSem.ClaimJoined
import GoSem.ClaimMapViews
import Derived.JoinedTies
import Derived.KernelRfl
namespace Go.Proofs.YtcjapamldllleaaDoor
/- THE CELL 'sum', in the pinned program and in every row, IS THE sha256 OF THE DUMP (.gsa) THAT YtcjapamldllleaaDoorProg.lean LOADS. Nothing in Lean hashes anything: it is a label: what it is worth is what the hold of that sum in a sandbox is worth. -/
noncomputable def Tryd.pinned : Pinned := { name := "ytcjapamldllleaadoor", sum := "9c9990c05c2058a4379fff81c7fa2ff7be8debe0220c4f70eac984cd5e304090", checked := Tryd.checked }
namespace Rows
def none {H : Type} : Left H := { results := [], args := [] }

/- WHAT THE LISTED PACKAGE-LEVEL VARIABLES READ AS WHEN THE CALL BEGINS. Each datum BY PROGRAM (the guide's laid-datum.mjs) off the statement by which the dump's own 'gosem.cut.vars' lays the variable. In a bare row this is a premise. The card (YtcjapamldllleaaDoorCards.lean) ties it to the program's text. -/
def laid_privhouse_schema_reserved {H : Type} : DataW H := .agg [.lit (.string [97, 98, 111, 118, 101]), .lit (.string [97, 110, 100]), .lit (.string [98, 97, 116, 99, 104]), .lit (.string [98, 101, 116, 119, 101, 101, 110]), .lit (.string [98, 105, 116, 115]), .lit (.string [98, 121]), .lit (.string [99, 111, 110, 115, 105, 115, 116, 101, 110, 116]), .lit (.string [99, 111, 117, 110, 116]), .lit (.string [101, 108, 115, 101]), .lit (.string [102, 97, 99, 116, 111, 114]), .lit (.string [102, 114, 111, 109]), .lit (.string [104, 105, 115, 116, 111, 103, 114, 97, 109]), .lit (.string [105, 100, 101, 110, 116, 105, 116, 121]), .lit (.string [105, 102]), .lit (.string [106, 111, 105, 110]), .lit (.string [107, 101, 101, 112]), .lit (.string [108, 97, 116, 101]), .lit (.string [108, 105, 109, 105, 116]), .lit (.string [109, 111, 100, 101]), .lit (.string [110, 111, 110, 101]), .lit (.string [110, 111, 116]), .lit (.string [111, 102]), .lit (.string [111, 110]), .lit (.string [111, 114]), .lit (.string [112, 101, 97, 107]), .lit (.string [112, 114, 101, 102, 105, 120]), .lit (.string [113, 117, 97, 110, 116, 105, 108, 101]), .lit (.string [114, 117, 110, 110, 105, 110, 103]), .lit (.string [115, 117, 109]), .lit (.string [116, 104, 101, 110]), .lit (.string [116, 111, 116, 97, 108]), .lit (.string [116, 114, 101, 101]), .lit (.string [117, 115, 105, 110, 103]), .lit (.string [119, 104, 101, 114, 101]), .lit (.string [119, 105, 116, 104])]

/-- 'privhouselaw17.SpanValues': WHATEVER THE INPUT: true; the input reads as it did. -/
def spanValuesSpec : ChangeSpec := { name := "spanValues", fn := fun _ => fun
  | [d1, d2, d3] => { results := [.lit (.bool true)], args := [d1, d2, d3] }
  | _ => none }
def spanValuesRow : OpenClaim := { program := "ytcjapamldllleaadoor", sum := "9c9990c05c2058a4379fff81c7fa2ff7be8debe0220c4f70eac984cd5e304090", func := "privhouse/privhouselaw17.SpanValues", spec := "spanValues", unfollowed := true, recurses := true, named := ["privhouse/schema.reserved"], plainKeys := false, apart := false, laid := [("privhouse/schema.reserved", laid_privhouse_schema_reserved)] }
def SpanValuesSaid : Prop := spanValuesRow.holds Tryd.pinned (OpenSpec.ofChange spanValuesSpec)

/-- ITS FALSE NEIGHBOUR: 'it returns false'. Refute it at one input. -/
def spanValuesWrong : ChangeSpec := { name := "spanValues", fn := fun _ => fun
  | [d1, d2, d3] => { results := [.lit (.bool false)], args := [d1, d2, d3] }
  | _ => none }
def SpanValuesWrongFalsely : Prop := spanValuesRow.holds Tryd.pinned (OpenSpec.ofChange spanValuesWrong)

/-- 'privhouselaw17.SpanBounds': WHATEVER THE INPUT: true; the input reads as it did. -/
def spanBoundsSpec : ChangeSpec := { name := "spanBounds", fn := fun _ => fun
  | [d1, d2] => { results := [.lit (.bool true)], args := [d1, d2] }
  | _ => none }
def spanBoundsRow : OpenClaim := { program := "ytcjapamldllleaadoor", sum := "9c9990c05c2058a4379fff81c7fa2ff7be8debe0220c4f70eac984cd5e304090", func := "privhouse/privhouselaw17.SpanBounds", spec := "spanBounds", unfollowed := true, recurses := true, named := ["privhouse/schema.reserved"], plainKeys := false, apart := false, laid := [("privhouse/schema.reserved", laid_privhouse_schema_reserved)] }
def SpanBoundsSaid : Prop := spanBoundsRow.holds Tryd.pinned (OpenSpec.ofChange spanBoundsSpec)

/-- ITS FALSE NEIGHBOUR: 'it returns false'. Refute it at one input. -/
def spanBoundsWrong : ChangeSpec := { name := "spanBounds", fn := fun _ => fun
  | [d1, d2] => { results := [.lit (.bool false)], args := [d1, d2] }
  | _ => none }
def SpanBoundsWrongFalsely : Prop := spanBoundsRow.holds Tryd.pinned (OpenSpec.ofChange spanBoundsWrong)

/-- 'privhouselaw17.SpanHolds': WHATEVER THE INPUT: true; the input reads as it did. -/
def spanHoldsSpec : ChangeSpec := { name := "spanHolds", fn := fun _ => fun
  | [d1, d2, d3] => { results := [.lit (.bool true)], args := [d1, d2, d3] }
  | _ => none }
def spanHoldsRow : OpenClaim := { program := "ytcjapamldllleaadoor", sum := "9c9990c05c2058a4379fff81c7fa2ff7be8debe0220c4f70eac984cd5e304090", func := "privhouse/privhouselaw17.SpanHolds", spec := "spanHolds", unfollowed := true, recurses := true, named := ["privhouse/schema.reserved"], plainKeys := false, apart := false, laid := [("privhouse/schema.reserved", laid_privhouse_schema_reserved)] }
def SpanHoldsSaid : Prop := spanHoldsRow.holds Tryd.pinned (OpenSpec.ofChange spanHoldsSpec)

/-- ITS FALSE NEIGHBOUR: 'it returns false'. Refute it at one input. -/
def spanHoldsWrong : ChangeSpec := { name := "spanHolds", fn := fun _ => fun
  | [d1, d2, d3] => { results := [.lit (.bool false)], args := [d1, d2, d3] }
  | _ => none }
def SpanHoldsWrongFalsely : Prop := spanHoldsRow.holds Tryd.pinned (OpenSpec.ofChange spanHoldsWrong)

/-- 'privhouselaw17.SpanEnds': WHATEVER THE INPUT: true; the input reads as it did. -/
def spanEndsSpec : ChangeSpec := { name := "spanEnds", fn := fun _ => fun
  | [d1, d2] => { results := [.lit (.bool true)], args := [d1, d2] }
  | _ => none }
def spanEndsRow : OpenClaim := { program := "ytcjapamldllleaadoor", sum := "9c9990c05c2058a4379fff81c7fa2ff7be8debe0220c4f70eac984cd5e304090", func := "privhouse/privhouselaw17.SpanEnds", spec := "spanEnds", unfollowed := true, recurses := true, named := ["privhouse/schema.reserved"], plainKeys := false, apart := false, laid := [("privhouse/schema.reserved", laid_privhouse_schema_reserved)] }
def SpanEndsSaid : Prop := spanEndsRow.holds Tryd.pinned (OpenSpec.ofChange spanEndsSpec)

/-- ITS FALSE NEIGHBOUR: 'it returns false'. Refute it at one input. -/
def spanEndsWrong : ChangeSpec := { name := "spanEnds", fn := fun _ => fun
  | [d1, d2] => { results := [.lit (.bool false)], args := [d1, d2] }
  | _ => none }
def SpanEndsWrongFalsely : Prop := spanEndsRow.holds Tryd.pinned (OpenSpec.ofChange spanEndsWrong)

/-- 'privhouselaw17.SpanFewer': WHATEVER THE INPUT: true; the input reads as it did. -/
def spanFewerSpec : ChangeSpec := { name := "spanFewer", fn := fun _ => fun
  | [d1, d2, d3] => { results := [.lit (.bool true)], args := [d1, d2, d3] }
  | _ => none }
def spanFewerRow : OpenClaim := { program := "ytcjapamldllleaadoor", sum := "9c9990c05c2058a4379fff81c7fa2ff7be8debe0220c4f70eac984cd5e304090", func := "privhouse/privhouselaw17.SpanFewer", spec := "spanFewer", unfollowed := true, recurses := true, named := ["privhouse/schema.reserved"], plainKeys := false, apart := false, laid := [("privhouse/schema.reserved", laid_privhouse_schema_reserved)] }
def SpanFewerSaid : Prop := spanFewerRow.holds Tryd.pinned (OpenSpec.ofChange spanFewerSpec)

/-- ITS FALSE NEIGHBOUR: 'it returns false'. Refute it at one input. -/
def spanFewerWrong : ChangeSpec := { name := "spanFewer", fn := fun _ => fun
  | [d1, d2, d3] => { results := [.lit (.bool false)], args := [d1, d2, d3] }
  | _ => none }
def SpanFewerWrongFalsely : Prop := spanFewerRow.holds Tryd.pinned (OpenSpec.ofChange spanFewerWrong)

/- THE SECOND FORM. 'bulk': how many values and letters a reading holds, each counted each time it is reached (what is shared counts as often as it is met; a slice's spare places count too). A statement '..UptoSaid' is the law's where the arguments, and the package variables that the reading takes, are together of bulk at most 1048576: NARROWER than '..Said'. Prove '..Said' where nothing that the law and all that it calls make is longer than what came in: it says more and counts as full. Else prove '..UptoSaid'. A law counts once. -/
mutual
def uptoBulk {H : Type} : DataW H → Nat
  | .lit (.string bytes) => bytes.length + 1
  | .lit _ => 1
  | .nil => 1
  | .ptr d => uptoBulk d + 1
  | .slice elems spare => uptoBulkAll elems + uptoBulkAll spare + 1
  | .agg parts => uptoBulkAll parts + 1
  | .iface _ d => uptoBulk d + 1
  | .map entries => uptoBulkEntries entries + 1
  | .held _ => 1
def uptoBulkAll {H : Type} : List (DataW H) → Nat
  | [] => 0
  | d :: r => uptoBulk d + uptoBulkAll r
def uptoBulkEntries {H : Type} : List (Lit × DataW H) → Nat
  | [] => 0
  | x :: r => uptoBulkEntry x + uptoBulkEntries r
def uptoBulkEntry {H : Type} : Lit × DataW H → Nat
  | (.string bytes, d) => bytes.length + uptoBulk d + 1
  | (_, d) => uptoBulk d + 1
 end
def uptoSmall : (H : Type) → List (DataW H) → Bool := fun _ ds => decide (uptoBulkAll ds ≤ 1048576)
def OpenSpec.upto (s : _root_.Go.ChangeSpec) : _root_.Go.OpenSpec := { _root_.Go.OpenSpec.ofChange s with cond := some uptoSmall }

/-- 'privhouselaw17.SpanValues', WHERE WHAT IT READS IS OF BULK AT MOST 1048576: true; the input reads as it did. -/
def spanValuesUptoRow : OpenClaim := { program := "ytcjapamldllleaadoor", sum := "9c9990c05c2058a4379fff81c7fa2ff7be8debe0220c4f70eac984cd5e304090", func := "privhouse/privhouselaw17.SpanValues", spec := "spanValues", unfollowed := true, recurses := true, named := ["privhouse/schema.reserved"], plainKeys := false, apart := false, laid := [("privhouse/schema.reserved", laid_privhouse_schema_reserved)], narrowed := true }
def SpanValuesUptoSaid : Prop := spanValuesUptoRow.holds Tryd.pinned (OpenSpec.upto spanValuesSpec)

/-- 'privhouselaw17.SpanBounds', WHERE WHAT IT READS IS OF BULK AT MOST 1048576: true; the input reads as it did. -/
def spanBoundsUptoRow : OpenClaim := { program := "ytcjapamldllleaadoor", sum := "9c9990c05c2058a4379fff81c7fa2ff7be8debe0220c4f70eac984cd5e304090", func := "privhouse/privhouselaw17.SpanBounds", spec := "spanBounds", unfollowed := true, recurses := true, named := ["privhouse/schema.reserved"], plainKeys := false, apart := false, laid := [("privhouse/schema.reserved", laid_privhouse_schema_reserved)], narrowed := true }
def SpanBoundsUptoSaid : Prop := spanBoundsUptoRow.holds Tryd.pinned (OpenSpec.upto spanBoundsSpec)

/-- 'privhouselaw17.SpanHolds', WHERE WHAT IT READS IS OF BULK AT MOST 1048576: true; the input reads as it did. -/
def spanHoldsUptoRow : OpenClaim := { program := "ytcjapamldllleaadoor", sum := "9c9990c05c2058a4379fff81c7fa2ff7be8debe0220c4f70eac984cd5e304090", func := "privhouse/privhouselaw17.SpanHolds", spec := "spanHolds", unfollowed := true, recurses := true, named := ["privhouse/schema.reserved"], plainKeys := false, apart := false, laid := [("privhouse/schema.reserved", laid_privhouse_schema_reserved)], narrowed := true }
def SpanHoldsUptoSaid : Prop := spanHoldsUptoRow.holds Tryd.pinned (OpenSpec.upto spanHoldsSpec)

/-- 'privhouselaw17.SpanEnds', WHERE WHAT IT READS IS OF BULK AT MOST 1048576: true; the input reads as it did. -/
def spanEndsUptoRow : OpenClaim := { program := "ytcjapamldllleaadoor", sum := "9c9990c05c2058a4379fff81c7fa2ff7be8debe0220c4f70eac984cd5e304090", func := "privhouse/privhouselaw17.SpanEnds", spec := "spanEnds", unfollowed := true, recurses := true, named := ["privhouse/schema.reserved"], plainKeys := false, apart := false, laid := [("privhouse/schema.reserved", laid_privhouse_schema_reserved)], narrowed := true }
def SpanEndsUptoSaid : Prop := spanEndsUptoRow.holds Tryd.pinned (OpenSpec.upto spanEndsSpec)

/-- 'privhouselaw17.SpanFewer', WHERE WHAT IT READS IS OF BULK AT MOST 1048576: true; the input reads as it did. -/
def spanFewerUptoRow : OpenClaim := { program := "ytcjapamldllleaadoor", sum := "9c9990c05c2058a4379fff81c7fa2ff7be8debe0220c4f70eac984cd5e304090", func := "privhouse/privhouselaw17.SpanFewer", spec := "spanFewer", unfollowed := true, recurses := true, named := ["privhouse/schema.reserved"], plainKeys := false, apart := false, laid := [("privhouse/schema.reserved", laid_privhouse_schema_reserved)], narrowed := true }
def SpanFewerUptoSaid : Prop := spanFewerUptoRow.holds Tryd.pinned (OpenSpec.upto spanFewerSpec)

end Rows
end Go.Proofs.YtcjapamldllleaaDoor
