/-
  NARROWER THAN 'FOR EVERY INPUT', by the rows' own cells (each row's printed sentence says how): SchemaNames: laid · SchemaChecks: laid · SchemaAll: laid · SchemaCopies: laid · TokenSplits: laid · SchemaKnown: laid · SchemaInverse: laid · SchemaFewer: laid · TokenJoins: laid · TokenKnown: laid · TokenAgain: laid · TokenBlanks: laid.
  DERIVED. THE GIVEN ROWS OF THIS SEAT. 12 by the template 'for every input the law returns true; each argument reads behind the call as it read before'; 0 by the template 'total and deterministic' (their statements: YtbikmhpobflfeaaDoorTotals.lean).
  GIVEN WITH THE SEED: the statements are not yours to turn. If you find one false, say at which input.
  Laid BY PROGRAM, IN A SANDBOX (cutbox-rows.mjs): the forced cells as the released guide's own fill.sh prints them over the translation 0d83433226576f5d… (all of the seat's roots in one cut). By AI agents, Wed Nov 11 2026. No macro, syntax, notation, axiom, sorry.
-/
import Derived.Test.YtbikmhpobflfeaaDoorChecked
import GoSem.Claim
import GoSem.ClaimJoined
import GoSem.ClaimMapViews
import Derived.JoinedTies
import Derived.KernelRfl
namespace Go.Proofs.YtbikmhpobflfeaaDoor
/- THE CELL 'sum', in the pinned program and in every row, IS THE sha256 OF THE DUMP (.gsa) THAT YtbikmhpobflfeaaDoorProg.lean LOADS. Nothing in Lean hashes anything: it is a label: what it is worth is what the hold of that sum in a sandbox is worth. -/
noncomputable def Tryd.pinned : Pinned := { name := "ytbikmhpobflfeaadoor", sum := "0d83433226576f5da9c9f44801bd220a3087b90c7465d571fa4a93941f1e9c83", checked := Tryd.checked }
namespace Rows
def none {H : Type} : Left H := { results := [], args := [] }

/- WHAT THE LISTED PACKAGE-LEVEL VARIABLES READ AS WHEN THE CALL BEGINS. Each datum BY PROGRAM (the guide's laid-datum.mjs) off the statement by which the dump's own 'gosem.cut.vars' lays the variable. In a bare row this is a premise. The card (YtbikmhpobflfeaaDoorCards.lean) ties it to the program's text. -/
def laid_math_bits_deBruijn32tab {H : Type} : DataW H := .agg [.lit (.int .u8 0), .lit (.int .u8 1), .lit (.int .u8 28), .lit (.int .u8 2), .lit (.int .u8 29), .lit (.int .u8 14), .lit (.int .u8 24), .lit (.int .u8 3), .lit (.int .u8 30), .lit (.int .u8 22), .lit (.int .u8 20), .lit (.int .u8 15), .lit (.int .u8 25), .lit (.int .u8 17), .lit (.int .u8 4), .lit (.int .u8 8), .lit (.int .u8 31), .lit (.int .u8 27), .lit (.int .u8 13), .lit (.int .u8 23), .lit (.int .u8 21), .lit (.int .u8 19), .lit (.int .u8 16), .lit (.int .u8 7), .lit (.int .u8 26), .lit (.int .u8 12), .lit (.int .u8 18), .lit (.int .u8 6), .lit (.int .u8 11), .lit (.int .u8 5), .lit (.int .u8 10), .lit (.int .u8 9)]
def laid_math_bits_deBruijn64tab {H : Type} : DataW H := .agg [.lit (.int .u8 0), .lit (.int .u8 1), .lit (.int .u8 56), .lit (.int .u8 2), .lit (.int .u8 57), .lit (.int .u8 49), .lit (.int .u8 28), .lit (.int .u8 3), .lit (.int .u8 61), .lit (.int .u8 58), .lit (.int .u8 42), .lit (.int .u8 50), .lit (.int .u8 38), .lit (.int .u8 29), .lit (.int .u8 17), .lit (.int .u8 4), .lit (.int .u8 62), .lit (.int .u8 47), .lit (.int .u8 59), .lit (.int .u8 36), .lit (.int .u8 45), .lit (.int .u8 43), .lit (.int .u8 51), .lit (.int .u8 22), .lit (.int .u8 53), .lit (.int .u8 39), .lit (.int .u8 33), .lit (.int .u8 30), .lit (.int .u8 24), .lit (.int .u8 18), .lit (.int .u8 12), .lit (.int .u8 5), .lit (.int .u8 63), .lit (.int .u8 55), .lit (.int .u8 48), .lit (.int .u8 27), .lit (.int .u8 60), .lit (.int .u8 41), .lit (.int .u8 37), .lit (.int .u8 16), .lit (.int .u8 46), .lit (.int .u8 35), .lit (.int .u8 44), .lit (.int .u8 21), .lit (.int .u8 52), .lit (.int .u8 32), .lit (.int .u8 23), .lit (.int .u8 11), .lit (.int .u8 54), .lit (.int .u8 26), .lit (.int .u8 40), .lit (.int .u8 15), .lit (.int .u8 34), .lit (.int .u8 20), .lit (.int .u8 31), .lit (.int .u8 10), .lit (.int .u8 25), .lit (.int .u8 14), .lit (.int .u8 19), .lit (.int .u8 9), .lit (.int .u8 13), .lit (.int .u8 8), .lit (.int .u8 7), .lit (.int .u8 6)]
def laid_internal_strconv_uint64pow10 {H : Type} : DataW H := .agg [.lit (.int .u64 1), .lit (.int .u64 10), .lit (.int .u64 100), .lit (.int .u64 1000), .lit (.int .u64 10000), .lit (.int .u64 100000), .lit (.int .u64 1000000), .lit (.int .u64 10000000), .lit (.int .u64 100000000), .lit (.int .u64 1000000000), .lit (.int .u64 10000000000), .lit (.int .u64 100000000000), .lit (.int .u64 1000000000000), .lit (.int .u64 10000000000000), .lit (.int .u64 100000000000000), .lit (.int .u64 1000000000000000), .lit (.int .u64 10000000000000000), .lit (.int .u64 100000000000000000), .lit (.int .u64 1000000000000000000), .lit (.int .u64 10000000000000000000)]
def laid_privhouse_schema_reserved {H : Type} : DataW H := .agg [.lit (.string [97, 98, 111, 118, 101]), .lit (.string [97, 110, 100]), .lit (.string [98, 97, 116, 99, 104]), .lit (.string [98, 101, 116, 119, 101, 101, 110]), .lit (.string [98, 105, 116, 115]), .lit (.string [98, 121]), .lit (.string [99, 111, 110, 115, 105, 115, 116, 101, 110, 116]), .lit (.string [99, 111, 117, 110, 116]), .lit (.string [101, 108, 115, 101]), .lit (.string [102, 97, 99, 116, 111, 114]), .lit (.string [102, 114, 111, 109]), .lit (.string [104, 105, 115, 116, 111, 103, 114, 97, 109]), .lit (.string [105, 100, 101, 110, 116, 105, 116, 121]), .lit (.string [105, 102]), .lit (.string [106, 111, 105, 110]), .lit (.string [107, 101, 101, 112]), .lit (.string [108, 97, 116, 101]), .lit (.string [108, 105, 109, 105, 116]), .lit (.string [109, 111, 100, 101]), .lit (.string [110, 111, 110, 101]), .lit (.string [110, 111, 116]), .lit (.string [111, 102]), .lit (.string [111, 110]), .lit (.string [111, 114]), .lit (.string [112, 101, 97, 107]), .lit (.string [112, 114, 101, 102, 105, 120]), .lit (.string [113, 117, 97, 110, 116, 105, 108, 101]), .lit (.string [114, 117, 110, 110, 105, 110, 103]), .lit (.string [115, 117, 109]), .lit (.string [116, 104, 101, 110]), .lit (.string [116, 111, 116, 97, 108]), .lit (.string [116, 114, 101, 101]), .lit (.string [117, 115, 105, 110, 103]), .lit (.string [119, 104, 101, 114, 101]), .lit (.string [119, 105, 116, 104])]
def laid_strconv_ErrRange {H : Type} : DataW H := .iface "*errors.errorString" (.ptr (.agg [.lit (.string [118, 97, 108, 117, 101, 32, 111, 117, 116, 32, 111, 102, 32, 114, 97, 110, 103, 101])]))
def laid_strconv_ErrSyntax {H : Type} : DataW H := .iface "*errors.errorString" (.ptr (.agg [.lit (.string [105, 110, 118, 97, 108, 105, 100, 32, 115, 121, 110, 116, 97, 120])]))

/-- 'privhouselaw11.SchemaNames': WHATEVER THE INPUT: true; the input reads as it did. -/
def schemaNamesSpec : ChangeSpec := { name := "schemaNames", fn := fun _ => fun
  | [d] => { results := [.lit (.bool true)], args := [d] }
  | _ => none }
def schemaNamesRow : OpenClaim := { program := "ytbikmhpobflfeaadoor", sum := "0d83433226576f5da9c9f44801bd220a3087b90c7465d571fa4a93941f1e9c83", func := "privhouse/privhouselaw11.SchemaNames", spec := "schemaNames", unfollowed := true, recurses := true, named := ["privhouse/schema.reserved", "internal/strconv.uint64pow10", "math/bits.deBruijn32tab", "math/bits.deBruijn64tab"], plainKeys := false, apart := false, laid := [("math/bits.deBruijn32tab", laid_math_bits_deBruijn32tab), ("math/bits.deBruijn64tab", laid_math_bits_deBruijn64tab), ("internal/strconv.uint64pow10", laid_internal_strconv_uint64pow10), ("privhouse/schema.reserved", laid_privhouse_schema_reserved)] }
def SchemaNamesSaid : Prop := schemaNamesRow.holds Tryd.pinned (OpenSpec.ofChange schemaNamesSpec)

/-- ITS FALSE NEIGHBOUR: 'it returns false'. Refute it at one input. -/
def schemaNamesWrong : ChangeSpec := { name := "schemaNames", fn := fun _ => fun
  | [d] => { results := [.lit (.bool false)], args := [d] }
  | _ => none }
def SchemaNamesWrongFalsely : Prop := schemaNamesRow.holds Tryd.pinned (OpenSpec.ofChange schemaNamesWrong)

/-- 'privhouselaw11.SchemaChecks': WHATEVER THE INPUT: true; the input reads as it did. -/
def schemaChecksSpec : ChangeSpec := { name := "schemaChecks", fn := fun _ => fun
  | [d] => { results := [.lit (.bool true)], args := [d] }
  | _ => none }
def schemaChecksRow : OpenClaim := { program := "ytbikmhpobflfeaadoor", sum := "0d83433226576f5da9c9f44801bd220a3087b90c7465d571fa4a93941f1e9c83", func := "privhouse/privhouselaw11.SchemaChecks", spec := "schemaChecks", unfollowed := true, recurses := true, named := ["privhouse/schema.reserved", "internal/strconv.uint64pow10", "math/bits.deBruijn32tab", "math/bits.deBruijn64tab"], plainKeys := false, apart := false, laid := [("math/bits.deBruijn32tab", laid_math_bits_deBruijn32tab), ("math/bits.deBruijn64tab", laid_math_bits_deBruijn64tab), ("internal/strconv.uint64pow10", laid_internal_strconv_uint64pow10), ("privhouse/schema.reserved", laid_privhouse_schema_reserved)] }
def SchemaChecksSaid : Prop := schemaChecksRow.holds Tryd.pinned (OpenSpec.ofChange schemaChecksSpec)

/-- ITS FALSE NEIGHBOUR: 'it returns false'. Refute it at one input. -/
def schemaChecksWrong : ChangeSpec := { name := "schemaChecks", fn := fun _ => fun
  | [d] => { results := [.lit (.bool false)], args := [d] }
  | _ => none }
def SchemaChecksWrongFalsely : Prop := schemaChecksRow.holds Tryd.pinned (OpenSpec.ofChange schemaChecksWrong)

/-- 'privhouselaw11.SchemaAll': WHATEVER THE INPUT: true; the input reads as it did. -/
def schemaAllSpec : ChangeSpec := { name := "schemaAll", fn := fun _ => fun
  | [d1, d2] => { results := [.lit (.bool true)], args := [d1, d2] }
  | _ => none }
def schemaAllRow : OpenClaim := { program := "ytbikmhpobflfeaadoor", sum := "0d83433226576f5da9c9f44801bd220a3087b90c7465d571fa4a93941f1e9c83", func := "privhouse/privhouselaw11.SchemaAll", spec := "schemaAll", unfollowed := true, recurses := true, named := ["privhouse/schema.reserved", "internal/strconv.uint64pow10", "math/bits.deBruijn32tab", "math/bits.deBruijn64tab"], plainKeys := false, apart := false, laid := [("math/bits.deBruijn32tab", laid_math_bits_deBruijn32tab), ("math/bits.deBruijn64tab", laid_math_bits_deBruijn64tab), ("internal/strconv.uint64pow10", laid_internal_strconv_uint64pow10), ("privhouse/schema.reserved", laid_privhouse_schema_reserved)] }
def SchemaAllSaid : Prop := schemaAllRow.holds Tryd.pinned (OpenSpec.ofChange schemaAllSpec)

/-- ITS FALSE NEIGHBOUR: 'it returns false'. Refute it at one input. -/
def schemaAllWrong : ChangeSpec := { name := "schemaAll", fn := fun _ => fun
  | [d1, d2] => { results := [.lit (.bool false)], args := [d1, d2] }
  | _ => none }
def SchemaAllWrongFalsely : Prop := schemaAllRow.holds Tryd.pinned (OpenSpec.ofChange schemaAllWrong)

/-- 'privhouselaw11.SchemaCopies': WHATEVER THE INPUT: true; the input reads as it did. -/
def schemaCopiesSpec : ChangeSpec := { name := "schemaCopies", fn := fun _ => fun
  | [d1, d2] => { results := [.lit (.bool true)], args := [d1, d2] }
  | _ => none }
def schemaCopiesRow : OpenClaim := { program := "ytbikmhpobflfeaadoor", sum := "0d83433226576f5da9c9f44801bd220a3087b90c7465d571fa4a93941f1e9c83", func := "privhouse/privhouselaw11.SchemaCopies", spec := "schemaCopies", unfollowed := true, recurses := true, named := ["privhouse/schema.reserved", "internal/strconv.uint64pow10", "math/bits.deBruijn32tab", "math/bits.deBruijn64tab"], plainKeys := false, apart := false, laid := [("math/bits.deBruijn32tab", laid_math_bits_deBruijn32tab), ("math/bits.deBruijn64tab", laid_math_bits_deBruijn64tab), ("internal/strconv.uint64pow10", laid_internal_strconv_uint64pow10), ("privhouse/schema.reserved", laid_privhouse_schema_reserved)] }
def SchemaCopiesSaid : Prop := schemaCopiesRow.holds Tryd.pinned (OpenSpec.ofChange schemaCopiesSpec)

/-- ITS FALSE NEIGHBOUR: 'it returns false'. Refute it at one input. -/
def schemaCopiesWrong : ChangeSpec := { name := "schemaCopies", fn := fun _ => fun
  | [d1, d2] => { results := [.lit (.bool false)], args := [d1, d2] }
  | _ => none }
def SchemaCopiesWrongFalsely : Prop := schemaCopiesRow.holds Tryd.pinned (OpenSpec.ofChange schemaCopiesWrong)

/-- 'privhouselaw13.TokenSplits': WHATEVER THE INPUT: true; the input reads as it did. -/
def tokenSplitsSpec : ChangeSpec := { name := "tokenSplits", fn := fun _ => fun
  | [d] => { results := [.lit (.bool true)], args := [d] }
  | _ => none }
def tokenSplitsRow : OpenClaim := { program := "ytbikmhpobflfeaadoor", sum := "0d83433226576f5da9c9f44801bd220a3087b90c7465d571fa4a93941f1e9c83", func := "privhouse/privhouselaw13.TokenSplits", spec := "tokenSplits", unfollowed := true, recurses := true, named := ["privhouse/schema.reserved", "strconv.ErrSyntax", "strconv.ErrRange", "internal/strconv.uint64pow10", "math/bits.deBruijn32tab", "math/bits.deBruijn64tab"], plainKeys := false, apart := false, laid := [("math/bits.deBruijn32tab", laid_math_bits_deBruijn32tab), ("math/bits.deBruijn64tab", laid_math_bits_deBruijn64tab), ("internal/strconv.uint64pow10", laid_internal_strconv_uint64pow10), ("strconv.ErrRange", laid_strconv_ErrRange), ("strconv.ErrSyntax", laid_strconv_ErrSyntax), ("privhouse/schema.reserved", laid_privhouse_schema_reserved)] }
def TokenSplitsSaid : Prop := tokenSplitsRow.holds Tryd.pinned (OpenSpec.ofChange tokenSplitsSpec)

/-- ITS FALSE NEIGHBOUR: 'it returns false'. Refute it at one input. -/
def tokenSplitsWrong : ChangeSpec := { name := "tokenSplits", fn := fun _ => fun
  | [d] => { results := [.lit (.bool false)], args := [d] }
  | _ => none }
def TokenSplitsWrongFalsely : Prop := tokenSplitsRow.holds Tryd.pinned (OpenSpec.ofChange tokenSplitsWrong)

/-- 'privhouselaw11.SchemaKnown': WHATEVER THE INPUT: true; the input reads as it did. -/
def schemaKnownSpec : ChangeSpec := { name := "schemaKnown", fn := fun _ => fun
  | [] => { results := [.lit (.bool true)], args := [] }
  | _ => none }
def schemaKnownRow : OpenClaim := { program := "ytbikmhpobflfeaadoor", sum := "0d83433226576f5da9c9f44801bd220a3087b90c7465d571fa4a93941f1e9c83", func := "privhouse/privhouselaw11.SchemaKnown", spec := "schemaKnown", unfollowed := true, recurses := true, named := ["privhouse/schema.reserved", "strconv.ErrSyntax", "strconv.ErrRange", "internal/strconv.uint64pow10", "math/bits.deBruijn32tab", "math/bits.deBruijn64tab"], plainKeys := false, apart := false, laid := [("math/bits.deBruijn32tab", laid_math_bits_deBruijn32tab), ("math/bits.deBruijn64tab", laid_math_bits_deBruijn64tab), ("internal/strconv.uint64pow10", laid_internal_strconv_uint64pow10), ("strconv.ErrRange", laid_strconv_ErrRange), ("strconv.ErrSyntax", laid_strconv_ErrSyntax), ("privhouse/schema.reserved", laid_privhouse_schema_reserved)] }
def SchemaKnownSaid : Prop := schemaKnownRow.holds Tryd.pinned (OpenSpec.ofChange schemaKnownSpec)

/-- ITS FALSE NEIGHBOUR: 'it returns false'. Refute it at one input. -/
def schemaKnownWrong : ChangeSpec := { name := "schemaKnown", fn := fun _ => fun
  | [] => { results := [.lit (.bool false)], args := [] }
  | _ => none }
def SchemaKnownWrongFalsely : Prop := schemaKnownRow.holds Tryd.pinned (OpenSpec.ofChange schemaKnownWrong)

/-- 'privhouselaw11.SchemaInverse': WHATEVER THE INPUT: true; the input reads as it did. -/
def schemaInverseSpec : ChangeSpec := { name := "schemaInverse", fn := fun _ => fun
  | [d1, d2, d3] => { results := [.lit (.bool true)], args := [d1, d2, d3] }
  | _ => none }
def schemaInverseRow : OpenClaim := { program := "ytbikmhpobflfeaadoor", sum := "0d83433226576f5da9c9f44801bd220a3087b90c7465d571fa4a93941f1e9c83", func := "privhouse/privhouselaw11.SchemaInverse", spec := "schemaInverse", unfollowed := true, recurses := true, named := ["privhouse/schema.reserved", "strconv.ErrSyntax", "strconv.ErrRange", "internal/strconv.uint64pow10", "math/bits.deBruijn32tab", "math/bits.deBruijn64tab"], plainKeys := false, apart := false, laid := [("math/bits.deBruijn32tab", laid_math_bits_deBruijn32tab), ("math/bits.deBruijn64tab", laid_math_bits_deBruijn64tab), ("internal/strconv.uint64pow10", laid_internal_strconv_uint64pow10), ("strconv.ErrRange", laid_strconv_ErrRange), ("strconv.ErrSyntax", laid_strconv_ErrSyntax), ("privhouse/schema.reserved", laid_privhouse_schema_reserved)] }
def SchemaInverseSaid : Prop := schemaInverseRow.holds Tryd.pinned (OpenSpec.ofChange schemaInverseSpec)

/-- ITS FALSE NEIGHBOUR: 'it returns false'. Refute it at one input. -/
def schemaInverseWrong : ChangeSpec := { name := "schemaInverse", fn := fun _ => fun
  | [d1, d2, d3] => { results := [.lit (.bool false)], args := [d1, d2, d3] }
  | _ => none }
def SchemaInverseWrongFalsely : Prop := schemaInverseRow.holds Tryd.pinned (OpenSpec.ofChange schemaInverseWrong)

/-- 'privhouselaw11.SchemaFewer': WHATEVER THE INPUT: true; the input reads as it did. -/
def schemaFewerSpec : ChangeSpec := { name := "schemaFewer", fn := fun _ => fun
  | [d1, d2, d3, d4] => { results := [.lit (.bool true)], args := [d1, d2, d3, d4] }
  | _ => none }
def schemaFewerRow : OpenClaim := { program := "ytbikmhpobflfeaadoor", sum := "0d83433226576f5da9c9f44801bd220a3087b90c7465d571fa4a93941f1e9c83", func := "privhouse/privhouselaw11.SchemaFewer", spec := "schemaFewer", unfollowed := true, recurses := true, named := ["privhouse/schema.reserved", "strconv.ErrSyntax", "strconv.ErrRange", "internal/strconv.uint64pow10", "math/bits.deBruijn32tab", "math/bits.deBruijn64tab"], plainKeys := false, apart := false, laid := [("math/bits.deBruijn32tab", laid_math_bits_deBruijn32tab), ("math/bits.deBruijn64tab", laid_math_bits_deBruijn64tab), ("internal/strconv.uint64pow10", laid_internal_strconv_uint64pow10), ("strconv.ErrRange", laid_strconv_ErrRange), ("strconv.ErrSyntax", laid_strconv_ErrSyntax), ("privhouse/schema.reserved", laid_privhouse_schema_reserved)] }
def SchemaFewerSaid : Prop := schemaFewerRow.holds Tryd.pinned (OpenSpec.ofChange schemaFewerSpec)

/-- ITS FALSE NEIGHBOUR: 'it returns false'. Refute it at one input. -/
def schemaFewerWrong : ChangeSpec := { name := "schemaFewer", fn := fun _ => fun
  | [d1, d2, d3, d4] => { results := [.lit (.bool false)], args := [d1, d2, d3, d4] }
  | _ => none }
def SchemaFewerWrongFalsely : Prop := schemaFewerRow.holds Tryd.pinned (OpenSpec.ofChange schemaFewerWrong)

/-- 'privhouselaw13.TokenJoins': WHATEVER THE INPUT: true; the input reads as it did. -/
def tokenJoinsSpec : ChangeSpec := { name := "tokenJoins", fn := fun _ => fun
  | [d] => { results := [.lit (.bool true)], args := [d] }
  | _ => none }
def tokenJoinsRow : OpenClaim := { program := "ytbikmhpobflfeaadoor", sum := "0d83433226576f5da9c9f44801bd220a3087b90c7465d571fa4a93941f1e9c83", func := "privhouse/privhouselaw13.TokenJoins", spec := "tokenJoins", inPlace := ["internal/abi.NoEscape"], unfollowed := true, recurses := true, named := ["privhouse/schema.reserved", "strconv.ErrSyntax", "strconv.ErrRange", "internal/strconv.uint64pow10", "math/bits.deBruijn32tab", "math/bits.deBruijn64tab"], plainKeys := false, apart := false, laid := [("math/bits.deBruijn32tab", laid_math_bits_deBruijn32tab), ("math/bits.deBruijn64tab", laid_math_bits_deBruijn64tab), ("internal/strconv.uint64pow10", laid_internal_strconv_uint64pow10), ("strconv.ErrRange", laid_strconv_ErrRange), ("strconv.ErrSyntax", laid_strconv_ErrSyntax), ("privhouse/schema.reserved", laid_privhouse_schema_reserved)] }
def TokenJoinsSaid : Prop := tokenJoinsRow.holds Tryd.pinned (OpenSpec.ofChange tokenJoinsSpec)

/-- ITS FALSE NEIGHBOUR: 'it returns false'. Refute it at one input. -/
def tokenJoinsWrong : ChangeSpec := { name := "tokenJoins", fn := fun _ => fun
  | [d] => { results := [.lit (.bool false)], args := [d] }
  | _ => none }
def TokenJoinsWrongFalsely : Prop := tokenJoinsRow.holds Tryd.pinned (OpenSpec.ofChange tokenJoinsWrong)

/-- 'privhouselaw13.TokenKnown': WHATEVER THE INPUT: true; the input reads as it did. -/
def tokenKnownSpec : ChangeSpec := { name := "tokenKnown", fn := fun _ => fun
  | [] => { results := [.lit (.bool true)], args := [] }
  | _ => none }
def tokenKnownRow : OpenClaim := { program := "ytbikmhpobflfeaadoor", sum := "0d83433226576f5da9c9f44801bd220a3087b90c7465d571fa4a93941f1e9c83", func := "privhouse/privhouselaw13.TokenKnown", spec := "tokenKnown", inPlace := ["internal/abi.NoEscape"], unfollowed := true, recurses := true, named := ["privhouse/schema.reserved", "strconv.ErrSyntax", "strconv.ErrRange", "internal/strconv.uint64pow10", "math/bits.deBruijn32tab", "math/bits.deBruijn64tab"], plainKeys := false, apart := false, laid := [("math/bits.deBruijn32tab", laid_math_bits_deBruijn32tab), ("math/bits.deBruijn64tab", laid_math_bits_deBruijn64tab), ("internal/strconv.uint64pow10", laid_internal_strconv_uint64pow10), ("strconv.ErrRange", laid_strconv_ErrRange), ("strconv.ErrSyntax", laid_strconv_ErrSyntax), ("privhouse/schema.reserved", laid_privhouse_schema_reserved)] }
def TokenKnownSaid : Prop := tokenKnownRow.holds Tryd.pinned (OpenSpec.ofChange tokenKnownSpec)

/-- ITS FALSE NEIGHBOUR: 'it returns false'. Refute it at one input. -/
def tokenKnownWrong : ChangeSpec := { name := "tokenKnown", fn := fun _ => fun
  | [] => { results := [.lit (.bool false)], args := [] }
  | _ => none }
def TokenKnownWrongFalsely : Prop := tokenKnownRow.holds Tryd.pinned (OpenSpec.ofChange tokenKnownWrong)

/-- 'privhouselaw13.TokenAgain': WHATEVER THE INPUT: true; the input reads as it did. -/
def tokenAgainSpec : ChangeSpec := { name := "tokenAgain", fn := fun _ => fun
  | [d] => { results := [.lit (.bool true)], args := [d] }
  | _ => none }
def tokenAgainRow : OpenClaim := { program := "ytbikmhpobflfeaadoor", sum := "0d83433226576f5da9c9f44801bd220a3087b90c7465d571fa4a93941f1e9c83", func := "privhouse/privhouselaw13.TokenAgain", spec := "tokenAgain", inPlace := ["internal/abi.NoEscape"], unfollowed := true, recurses := true, named := ["privhouse/schema.reserved", "strconv.ErrSyntax", "strconv.ErrRange", "internal/strconv.uint64pow10", "math/bits.deBruijn32tab", "math/bits.deBruijn64tab"], plainKeys := false, apart := false, laid := [("math/bits.deBruijn32tab", laid_math_bits_deBruijn32tab), ("math/bits.deBruijn64tab", laid_math_bits_deBruijn64tab), ("internal/strconv.uint64pow10", laid_internal_strconv_uint64pow10), ("strconv.ErrRange", laid_strconv_ErrRange), ("strconv.ErrSyntax", laid_strconv_ErrSyntax), ("privhouse/schema.reserved", laid_privhouse_schema_reserved)] }
def TokenAgainSaid : Prop := tokenAgainRow.holds Tryd.pinned (OpenSpec.ofChange tokenAgainSpec)

/-- ITS FALSE NEIGHBOUR: 'it returns false'. Refute it at one input. -/
def tokenAgainWrong : ChangeSpec := { name := "tokenAgain", fn := fun _ => fun
  | [d] => { results := [.lit (.bool false)], args := [d] }
  | _ => none }
def TokenAgainWrongFalsely : Prop := tokenAgainRow.holds Tryd.pinned (OpenSpec.ofChange tokenAgainWrong)

/-- 'privhouselaw13.TokenBlanks': WHATEVER THE INPUT: true; the input reads as it did. -/
def tokenBlanksSpec : ChangeSpec := { name := "tokenBlanks", fn := fun _ => fun
  | [d1, d2] => { results := [.lit (.bool true)], args := [d1, d2] }
  | _ => none }
def tokenBlanksRow : OpenClaim := { program := "ytbikmhpobflfeaadoor", sum := "0d83433226576f5da9c9f44801bd220a3087b90c7465d571fa4a93941f1e9c83", func := "privhouse/privhouselaw13.TokenBlanks", spec := "tokenBlanks", inPlace := ["internal/abi.NoEscape"], unfollowed := true, recurses := true, named := ["privhouse/schema.reserved", "strconv.ErrSyntax", "strconv.ErrRange", "internal/strconv.uint64pow10", "math/bits.deBruijn32tab", "math/bits.deBruijn64tab"], plainKeys := false, apart := false, laid := [("math/bits.deBruijn32tab", laid_math_bits_deBruijn32tab), ("math/bits.deBruijn64tab", laid_math_bits_deBruijn64tab), ("internal/strconv.uint64pow10", laid_internal_strconv_uint64pow10), ("strconv.ErrRange", laid_strconv_ErrRange), ("strconv.ErrSyntax", laid_strconv_ErrSyntax), ("privhouse/schema.reserved", laid_privhouse_schema_reserved)] }
def TokenBlanksSaid : Prop := tokenBlanksRow.holds Tryd.pinned (OpenSpec.ofChange tokenBlanksSpec)

/-- ITS FALSE NEIGHBOUR: 'it returns false'. Refute it at one input. -/
def tokenBlanksWrong : ChangeSpec := { name := "tokenBlanks", fn := fun _ => fun
  | [d1, d2] => { results := [.lit (.bool false)], args := [d1, d2] }
  | _ => none }
def TokenBlanksWrongFalsely : Prop := tokenBlanksRow.holds Tryd.pinned (OpenSpec.ofChange tokenBlanksWrong)

/- THE SECOND FORM. 'bulk': how many values and letters a reading holds, each counted each time it is reached (what is shared counts as often as it is met; a slice's spare places count too). A statement '..UptoSaid' is the law's where the arguments, and the package variables that the reading takes, are together of bulk at most 1048576: NARROWER than '..Said'. Prove '..Said' where nothing that the law and all that it calls make is longer than what came in: it says more and counts as full. Else prove '..UptoSaid'. A law counts once. -/
mutual
def uptoBulk {H : Type} : DataW H → Nat
  | .lit (.string bytes) => bytes.length + 1
  | .lit _ => 1
  | .nil => 1
  | .ptr d => uptoBulk d + 1
  | .slice elems spare => uptoBulkAll elems + uptoBulkAll spare + 1
  | .agg parts => uptoBulkAll parts + 1
  | .iface _ d => uptoBulk d + 1
  | .map entries => uptoBulkEntries entries + 1
  | .held _ => 1
def uptoBulkAll {H : Type} : List (DataW H) → Nat
  | [] => 0
  | d :: r => uptoBulk d + uptoBulkAll r
def uptoBulkEntries {H : Type} : List (Lit × DataW H) → Nat
  | [] => 0
  | x :: r => uptoBulkEntry x + uptoBulkEntries r
def uptoBulkEntry {H : Type} : Lit × DataW H → Nat
  | (.string bytes, d) => bytes.length + uptoBulk d + 1
  | (_, d) => uptoBulk d + 1
 end
def uptoSmall : (H : Type) → List (DataW H) → Bool := fun _ ds => decide (uptoBulkAll ds ≤ 1048576)
def OpenSpec.upto (s : _root_.Go.ChangeSpec) : _root_.Go.OpenSpec := { _root_.Go.OpenSpec.ofChange s with cond := some uptoSmall }

/-- 'privhouselaw11.SchemaNames', WHERE WHAT IT READS IS OF BULK AT MOST 1048576: true; the input reads as it did. -/
def schemaNamesUptoRow : OpenClaim := { program := "ytbikmhpobflfeaadoor", sum := "0d83433226576f5da9c9f44801bd220a3087b90c7465d571fa4a93941f1e9c83", func := "privhouse/privhouselaw11.SchemaNames", spec := "schemaNames", unfollowed := true, recurses := true, named := ["privhouse/schema.reserved", "internal/strconv.uint64pow10", "math/bits.deBruijn32tab", "math/bits.deBruijn64tab"], plainKeys := false, apart := false, laid := [("math/bits.deBruijn32tab", laid_math_bits_deBruijn32tab), ("math/bits.deBruijn64tab", laid_math_bits_deBruijn64tab), ("internal/strconv.uint64pow10", laid_internal_strconv_uint64pow10), ("privhouse/schema.reserved", laid_privhouse_schema_reserved)], narrowed := true }
def SchemaNamesUptoSaid : Prop := schemaNamesUptoRow.holds Tryd.pinned (OpenSpec.upto schemaNamesSpec)

/-- 'privhouselaw11.SchemaChecks', WHERE WHAT IT READS IS OF BULK AT MOST 1048576: true; the input reads as it did. -/
def schemaChecksUptoRow : OpenClaim := { program := "ytbikmhpobflfeaadoor", sum := "0d83433226576f5da9c9f44801bd220a3087b90c7465d571fa4a93941f1e9c83", func := "privhouse/privhouselaw11.SchemaChecks", spec := "schemaChecks", unfollowed := true, recurses := true, named := ["privhouse/schema.reserved", "internal/strconv.uint64pow10", "math/bits.deBruijn32tab", "math/bits.deBruijn64tab"], plainKeys := false, apart := false, laid := [("math/bits.deBruijn32tab", laid_math_bits_deBruijn32tab), ("math/bits.deBruijn64tab", laid_math_bits_deBruijn64tab), ("internal/strconv.uint64pow10", laid_internal_strconv_uint64pow10), ("privhouse/schema.reserved", laid_privhouse_schema_reserved)], narrowed := true }
def SchemaChecksUptoSaid : Prop := schemaChecksUptoRow.holds Tryd.pinned (OpenSpec.upto schemaChecksSpec)

/-- 'privhouselaw11.SchemaAll', WHERE WHAT IT READS IS OF BULK AT MOST 1048576: true; the input reads as it did. -/
def schemaAllUptoRow : OpenClaim := { program := "ytbikmhpobflfeaadoor", sum := "0d83433226576f5da9c9f44801bd220a3087b90c7465d571fa4a93941f1e9c83", func := "privhouse/privhouselaw11.SchemaAll", spec := "schemaAll", unfollowed := true, recurses := true, named := ["privhouse/schema.reserved", "internal/strconv.uint64pow10", "math/bits.deBruijn32tab", "math/bits.deBruijn64tab"], plainKeys := false, apart := false, laid := [("math/bits.deBruijn32tab", laid_math_bits_deBruijn32tab), ("math/bits.deBruijn64tab", laid_math_bits_deBruijn64tab), ("internal/strconv.uint64pow10", laid_internal_strconv_uint64pow10), ("privhouse/schema.reserved", laid_privhouse_schema_reserved)], narrowed := true }
def SchemaAllUptoSaid : Prop := schemaAllUptoRow.holds Tryd.pinned (OpenSpec.upto schemaAllSpec)

/-- 'privhouselaw11.SchemaCopies', WHERE WHAT IT READS IS OF BULK AT MOST 1048576: true; the input reads as it did. -/
def schemaCopiesUptoRow : OpenClaim := { program := "ytbikmhpobflfeaadoor", sum := "0d83433226576f5da9c9f44801bd220a3087b90c7465d571fa4a93941f1e9c83", func := "privhouse/privhouselaw11.SchemaCopies", spec := "schemaCopies", unfollowed := true, recurses := true, named := ["privhouse/schema.reserved", "internal/strconv.uint64pow10", "math/bits.deBruijn32tab", "math/bits.deBruijn64tab"], plainKeys := false, apart := false, laid := [("math/bits.deBruijn32tab", laid_math_bits_deBruijn32tab), ("math/bits.deBruijn64tab", laid_math_bits_deBruijn64tab), ("internal/strconv.uint64pow10", laid_internal_strconv_uint64pow10), ("privhouse/schema.reserved", laid_privhouse_schema_reserved)], narrowed := true }
def SchemaCopiesUptoSaid : Prop := schemaCopiesUptoRow.holds Tryd.pinned (OpenSpec.upto schemaCopiesSpec)

/-- 'privhouselaw13.TokenSplits', WHERE WHAT IT READS IS OF BULK AT MOST 1048576: true; the input reads as it did. -/
def tokenSplitsUptoRow : OpenClaim := { program := "ytbikmhpobflfeaadoor", sum := "0d83433226576f5da9c9f44801bd220a3087b90c7465d571fa4a93941f1e9c83", func := "privhouse/privhouselaw13.TokenSplits", spec := "tokenSplits", unfollowed := true, recurses := true, named := ["privhouse/schema.reserved", "strconv.ErrSyntax", "strconv.ErrRange", "internal/strconv.uint64pow10", "math/bits.deBruijn32tab", "math/bits.deBruijn64tab"], plainKeys := false, apart := false, laid := [("math/bits.deBruijn32tab", laid_math_bits_deBruijn32tab), ("math/bits.deBruijn64tab", laid_math_bits_deBruijn64tab), ("internal/strconv.uint64pow10", laid_internal_strconv_uint64pow10), ("strconv.ErrRange", laid_strconv_ErrRange), ("strconv.ErrSyntax", laid_strconv_ErrSyntax), ("privhouse/schema.reserved", laid_privhouse_schema_reserved)], narrowed := true }
def TokenSplitsUptoSaid : Prop := tokenSplitsUptoRow.holds Tryd.pinned (OpenSpec.upto tokenSplitsSpec)

/-- 'privhouselaw11.SchemaKnown', WHERE WHAT IT READS IS OF BULK AT MOST 1048576: true; the input reads as it did. -/
def schemaKnownUptoRow : OpenClaim := { program := "ytbikmhpobflfeaadoor", sum := "0d83433226576f5da9c9f44801bd220a3087b90c7465d571fa4a93941f1e9c83", func := "privhouse/privhouselaw11.SchemaKnown", spec := "schemaKnown", unfollowed := true, recurses := true, named := ["privhouse/schema.reserved", "strconv.ErrSyntax", "strconv.ErrRange", "internal/strconv.uint64pow10", "math/bits.deBruijn32tab", "math/bits.deBruijn64tab"], plainKeys := false, apart := false, laid := [("math/bits.deBruijn32tab", laid_math_bits_deBruijn32tab), ("math/bits.deBruijn64tab", laid_math_bits_deBruijn64tab), ("internal/strconv.uint64pow10", laid_internal_strconv_uint64pow10), ("strconv.ErrRange", laid_strconv_ErrRange), ("strconv.ErrSyntax", laid_strconv_ErrSyntax), ("privhouse/schema.reserved", laid_privhouse_schema_reserved)], narrowed := true }
def SchemaKnownUptoSaid : Prop := schemaKnownUptoRow.holds Tryd.pinned (OpenSpec.upto schemaKnownSpec)

/-- 'privhouselaw11.SchemaInverse', WHERE WHAT IT READS IS OF BULK AT MOST 1048576: true; the input reads as it did. -/
def schemaInverseUptoRow : OpenClaim := { program := "ytbikmhpobflfeaadoor", sum := "0d83433226576f5da9c9f44801bd220a3087b90c7465d571fa4a93941f1e9c83", func := "privhouse/privhouselaw11.SchemaInverse", spec := "schemaInverse", unfollowed := true, recurses := true, named := ["privhouse/schema.reserved", "strconv.ErrSyntax", "strconv.ErrRange", "internal/strconv.uint64pow10", "math/bits.deBruijn32tab", "math/bits.deBruijn64tab"], plainKeys := false, apart := false, laid := [("math/bits.deBruijn32tab", laid_math_bits_deBruijn32tab), ("math/bits.deBruijn64tab", laid_math_bits_deBruijn64tab), ("internal/strconv.uint64pow10", laid_internal_strconv_uint64pow10), ("strconv.ErrRange", laid_strconv_ErrRange), ("strconv.ErrSyntax", laid_strconv_ErrSyntax), ("privhouse/schema.reserved", laid_privhouse_schema_reserved)], narrowed := true }
def SchemaInverseUptoSaid : Prop := schemaInverseUptoRow.holds Tryd.pinned (OpenSpec.upto schemaInverseSpec)

/-- 'privhouselaw11.SchemaFewer', WHERE WHAT IT READS IS OF BULK AT MOST 1048576: true; the input reads as it did. -/
def schemaFewerUptoRow : OpenClaim := { program := "ytbikmhpobflfeaadoor", sum := "0d83433226576f5da9c9f44801bd220a3087b90c7465d571fa4a93941f1e9c83", func := "privhouse/privhouselaw11.SchemaFewer", spec := "schemaFewer", unfollowed := true, recurses := true, named := ["privhouse/schema.reserved", "strconv.ErrSyntax", "strconv.ErrRange", "internal/strconv.uint64pow10", "math/bits.deBruijn32tab", "math/bits.deBruijn64tab"], plainKeys := false, apart := false, laid := [("math/bits.deBruijn32tab", laid_math_bits_deBruijn32tab), ("math/bits.deBruijn64tab", laid_math_bits_deBruijn64tab), ("internal/strconv.uint64pow10", laid_internal_strconv_uint64pow10), ("strconv.ErrRange", laid_strconv_ErrRange), ("strconv.ErrSyntax", laid_strconv_ErrSyntax), ("privhouse/schema.reserved", laid_privhouse_schema_reserved)], narrowed := true }
def SchemaFewerUptoSaid : Prop := schemaFewerUptoRow.holds Tryd.pinned (OpenSpec.upto schemaFewerSpec)

/-- 'privhouselaw13.TokenJoins', WHERE WHAT IT READS IS OF BULK AT MOST 1048576: true; the input reads as it did. -/
def tokenJoinsUptoRow : OpenClaim := { program := "ytbikmhpobflfeaadoor", sum := "0d83433226576f5da9c9f44801bd220a3087b90c7465d571fa4a93941f1e9c83", func := "privhouse/privhouselaw13.TokenJoins", spec := "tokenJoins", inPlace := ["internal/abi.NoEscape"], unfollowed := true, recurses := true, named := ["privhouse/schema.reserved", "strconv.ErrSyntax", "strconv.ErrRange", "internal/strconv.uint64pow10", "math/bits.deBruijn32tab", "math/bits.deBruijn64tab"], plainKeys := false, apart := false, laid := [("math/bits.deBruijn32tab", laid_math_bits_deBruijn32tab), ("math/bits.deBruijn64tab", laid_math_bits_deBruijn64tab), ("internal/strconv.uint64pow10", laid_internal_strconv_uint64pow10), ("strconv.ErrRange", laid_strconv_ErrRange), ("strconv.ErrSyntax", laid_strconv_ErrSyntax), ("privhouse/schema.reserved", laid_privhouse_schema_reserved)], narrowed := true }
def TokenJoinsUptoSaid : Prop := tokenJoinsUptoRow.holds Tryd.pinned (OpenSpec.upto tokenJoinsSpec)

/-- 'privhouselaw13.TokenKnown', WHERE WHAT IT READS IS OF BULK AT MOST 1048576: true; the input reads as it did. -/
def tokenKnownUptoRow : OpenClaim := { program := "ytbikmhpobflfeaadoor", sum := "0d83433226576f5da9c9f44801bd220a3087b90c7465d571fa4a93941f1e9c83", func := "privhouse/privhouselaw13.TokenKnown", spec := "tokenKnown", inPlace := ["internal/abi.NoEscape"], unfollowed := true, recurses := true, named := ["privhouse/schema.reserved", "strconv.ErrSyntax", "strconv.ErrRange", "internal/strconv.uint64pow10", "math/bits.deBruijn32tab", "math/bits.deBruijn64tab"], plainKeys := false, apart := false, laid := [("math/bits.deBruijn32tab", laid_math_bits_deBruijn32tab), ("math/bits.deBruijn64tab", laid_math_bits_deBruijn64tab), ("internal/strconv.uint64pow10", laid_internal_strconv_uint64pow10), ("strconv.ErrRange", laid_strconv_ErrRange), ("strconv.ErrSyntax", laid_strconv_ErrSyntax), ("privhouse/schema.reserved", laid_privhouse_schema_reserved)], narrowed := true }
def TokenKnownUptoSaid : Prop := tokenKnownUptoRow.holds Tryd.pinned (OpenSpec.upto tokenKnownSpec)

/-- 'privhouselaw13.TokenAgain', WHERE WHAT IT READS IS OF BULK AT MOST 1048576: true; the input reads as it did. -/
def tokenAgainUptoRow : OpenClaim := { program := "ytbikmhpobflfeaadoor", sum := "0d83433226576f5da9c9f44801bd220a3087b90c7465d571fa4a93941f1e9c83", func := "privhouse/privhouselaw13.TokenAgain", spec := "tokenAgain", inPlace := ["internal/abi.NoEscape"], unfollowed := true, recurses := true, named := ["privhouse/schema.reserved", "strconv.ErrSyntax", "strconv.ErrRange", "internal/strconv.uint64pow10", "math/bits.deBruijn32tab", "math/bits.deBruijn64tab"], plainKeys := false, apart := false, laid := [("math/bits.deBruijn32tab", laid_math_bits_deBruijn32tab), ("math/bits.deBruijn64tab", laid_math_bits_deBruijn64tab), ("internal/strconv.uint64pow10", laid_internal_strconv_uint64pow10), ("strconv.ErrRange", laid_strconv_ErrRange), ("strconv.ErrSyntax", laid_strconv_ErrSyntax), ("privhouse/schema.reserved", laid_privhouse_schema_reserved)], narrowed := true }
def TokenAgainUptoSaid : Prop := tokenAgainUptoRow.holds Tryd.pinned (OpenSpec.upto tokenAgainSpec)

/-- 'privhouselaw13.TokenBlanks', WHERE WHAT IT READS IS OF BULK AT MOST 1048576: true; the input reads as it did. -/
def tokenBlanksUptoRow : OpenClaim := { program := "ytbikmhpobflfeaadoor", sum := "0d83433226576f5da9c9f44801bd220a3087b90c7465d571fa4a93941f1e9c83", func := "privhouse/privhouselaw13.TokenBlanks", spec := "tokenBlanks", inPlace := ["internal/abi.NoEscape"], unfollowed := true, recurses := true, named := ["privhouse/schema.reserved", "strconv.ErrSyntax", "strconv.ErrRange", "internal/strconv.uint64pow10", "math/bits.deBruijn32tab", "math/bits.deBruijn64tab"], plainKeys := false, apart := false, laid := [("math/bits.deBruijn32tab", laid_math_bits_deBruijn32tab), ("math/bits.deBruijn64tab", laid_math_bits_deBruijn64tab), ("internal/strconv.uint64pow10", laid_internal_strconv_uint64pow10), ("strconv.ErrRange", laid_strconv_ErrRange), ("strconv.ErrSyntax", laid_strconv_ErrSyntax), ("privhouse/schema.reserved", laid_privhouse_schema_reserved)], narrowed := true }
def TokenBlanksUptoSaid : Prop := tokenBlanksUptoRow.holds Tryd.pinned (OpenSpec.upto tokenBlanksSpec)

end Rows
end Go.Proofs.YtbikmhpobflfeaaDoor
