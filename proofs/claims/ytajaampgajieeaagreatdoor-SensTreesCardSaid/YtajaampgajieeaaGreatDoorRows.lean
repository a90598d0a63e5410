/-
  NARROWER THAN 'FOR EVERY INPUT', by the rows' own cells (each row's printed sentence says how): CheckMore: laid · CheckQueries: laid · SensRanks: laid · SensBounds: laid · SensNumbers: laid · RelViews: laid · RelCells: laid · RelRows: laid · RelAdds: laid · RelOwners: laid · SensTrees: laid.
  DERIVED. THE GIVEN ROWS OF THIS SEAT. 11 by the template 'for every input the law returns true; each argument reads behind the call as it read before'; 0 by the template 'total and deterministic' (their statements: YtajaampgajieeaaGreatDoorTotals.lean).
  GIVEN WITH THE SEED: the statements are not yours to turn. If you find one false, say at which input.
  Laid BY PROGRAM, IN A SANDBOX (cutbox-rows.mjs): the forced cells as the released guide's own fill.sh prints them over the translation 8b01d9c2d980de4c… (all of the seat's roots in one cut). By AI agents, Wed Nov 11 2026. No macro, syntax, notation, axiom, sorry.
-/
import Derived.Test.YtajaampgajieeaaGreatDoorChecked
import GoSem.PinnedTables
import GoSem.Claim
import GoSem.ClaimJoined
import GoSem.ClaimMapViews
import Derived.JoinedTies
import Derived.KernelRfl
namespace Go.Proofs.YtajaampgajieeaaGreatDoor
/- THE CELL 'sum', in the pinned program and in every row, IS THE sha256 OF THE DUMP (.gsa) THAT YtajaampgajieeaaGreatDoorProg.lean LOADS. Nothing in Lean hashes anything: it is a label: what it is worth is what the hold of that sum in a sandbox is worth. -/
noncomputable def Tryz.pinned : Pinned := { name := "ytajaampgajieeaagreatdoor", sum := "8b01d9c2d980de4c9825022486fc226472fe28416b12c5abdfa3a919c7409205", checked := Tryz.checked }
namespace Rows
def none {H : Type} : Left H := { results := [], args := [] }

/- WHAT THE LISTED PACKAGE-LEVEL VARIABLES READ AS WHEN THE CALL BEGINS. Each datum BY PROGRAM (the guide's laid-datum.mjs) off the statement by which the dump's own 'gosem.cut.vars' lays the variable. In a bare row this is a premise. The card (YtajaampgajieeaaGreatDoorCards.lean) ties it to the program's text. -/
def laid_math_bits_deBruijn32tab {H : Type} : DataW H := .agg [.lit (.int .u8 0), .lit (.int .u8 1), .lit (.int .u8 28), .lit (.int .u8 2), .lit (.int .u8 29), .lit (.int .u8 14), .lit (.int .u8 24), .lit (.int .u8 3), .lit (.int .u8 30), .lit (.int .u8 22), .lit (.int .u8 20), .lit (.int .u8 15), .lit (.int .u8 25), .lit (.int .u8 17), .lit (.int .u8 4), .lit (.int .u8 8), .lit (.int .u8 31), .lit (.int .u8 27), .lit (.int .u8 13), .lit (.int .u8 23), .lit (.int .u8 21), .lit (.int .u8 19), .lit (.int .u8 16), .lit (.int .u8 7), .lit (.int .u8 26), .lit (.int .u8 12), .lit (.int .u8 18), .lit (.int .u8 6), .lit (.int .u8 11), .lit (.int .u8 5), .lit (.int .u8 10), .lit (.int .u8 9)]
def laid_math_bits_deBruijn64tab {H : Type} : DataW H := .agg [.lit (.int .u8 0), .lit (.int .u8 1), .lit (.int .u8 56), .lit (.int .u8 2), .lit (.int .u8 57), .lit (.int .u8 49), .lit (.int .u8 28), .lit (.int .u8 3), .lit (.int .u8 61), .lit (.int .u8 58), .lit (.int .u8 42), .lit (.int .u8 50), .lit (.int .u8 38), .lit (.int .u8 29), .lit (.int .u8 17), .lit (.int .u8 4), .lit (.int .u8 62), .lit (.int .u8 47), .lit (.int .u8 59), .lit (.int .u8 36), .lit (.int .u8 45), .lit (.int .u8 43), .lit (.int .u8 51), .lit (.int .u8 22), .lit (.int .u8 53), .lit (.int .u8 39), .lit (.int .u8 33), .lit (.int .u8 30), .lit (.int .u8 24), .lit (.int .u8 18), .lit (.int .u8 12), .lit (.int .u8 5), .lit (.int .u8 63), .lit (.int .u8 55), .lit (.int .u8 48), .lit (.int .u8 27), .lit (.int .u8 60), .lit (.int .u8 41), .lit (.int .u8 37), .lit (.int .u8 16), .lit (.int .u8 46), .lit (.int .u8 35), .lit (.int .u8 44), .lit (.int .u8 21), .lit (.int .u8 52), .lit (.int .u8 32), .lit (.int .u8 23), .lit (.int .u8 11), .lit (.int .u8 54), .lit (.int .u8 26), .lit (.int .u8 40), .lit (.int .u8 15), .lit (.int .u8 34), .lit (.int .u8 20), .lit (.int .u8 31), .lit (.int .u8 10), .lit (.int .u8 25), .lit (.int .u8 14), .lit (.int .u8 19), .lit (.int .u8 9), .lit (.int .u8 13), .lit (.int .u8 8), .lit (.int .u8 7), .lit (.int .u8 6)]
def laid_internal_strconv_uint64pow10 {H : Type} : DataW H := .agg [.lit (.int .u64 1), .lit (.int .u64 10), .lit (.int .u64 100), .lit (.int .u64 1000), .lit (.int .u64 10000), .lit (.int .u64 100000), .lit (.int .u64 1000000), .lit (.int .u64 10000000), .lit (.int .u64 100000000), .lit (.int .u64 1000000000), .lit (.int .u64 10000000000), .lit (.int .u64 100000000000), .lit (.int .u64 1000000000000), .lit (.int .u64 10000000000000), .lit (.int .u64 100000000000000), .lit (.int .u64 1000000000000000), .lit (.int .u64 10000000000000000), .lit (.int .u64 100000000000000000), .lit (.int .u64 1000000000000000000), .lit (.int .u64 10000000000000000000)]
def laid_unicode_utf8_acceptRanges {H : Type} : DataW H := .agg [.agg [.lit (.int .u8 128), .lit (.int .u8 191)], .agg [.lit (.int .u8 160), .lit (.int .u8 191)], .agg [.lit (.int .u8 128), .lit (.int .u8 159)], .agg [.lit (.int .u8 144), .lit (.int .u8 191)], .agg [.lit (.int .u8 128), .lit (.int .u8 143)], .agg [.lit (.int .u8 0), .lit (.int .u8 0)], .agg [.lit (.int .u8 0), .lit (.int .u8 0)], .agg [.lit (.int .u8 0), .lit (.int .u8 0)], .agg [.lit (.int .u8 0), .lit (.int .u8 0)], .agg [.lit (.int .u8 0), .lit (.int .u8 0)], .agg [.lit (.int .u8 0), .lit (.int .u8 0)], .agg [.lit (.int .u8 0), .lit (.int .u8 0)], .agg [.lit (.int .u8 0), .lit (.int .u8 0)], .agg [.lit (.int .u8 0), .lit (.int .u8 0)], .agg [.lit (.int .u8 0), .lit (.int .u8 0)], .agg [.lit (.int .u8 0), .lit (.int .u8 0)]]
def laid_strconv_ErrRange {H : Type} : DataW H := .iface "*errors.errorString" (.ptr (.agg [.lit (.string [118, 97, 108, 117, 101, 32, 111, 117, 116, 32, 111, 102, 32, 114, 97, 110, 103, 101])]))
def laid_strconv_ErrSyntax {H : Type} : DataW H := .iface "*errors.errorString" (.ptr (.agg [.lit (.string [105, 110, 118, 97, 108, 105, 100, 32, 115, 121, 110, 116, 97, 120])]))
def laid_privhouse_schema_reserved {H : Type} : DataW H := .agg [.lit (.string [97, 98, 111, 118, 101]), .lit (.string [97, 110, 100]), .lit (.string [98, 97, 116, 99, 104]), .lit (.string [98, 101, 116, 119, 101, 101, 110]), .lit (.string [98, 105, 116, 115]), .lit (.string [98, 121]), .lit (.string [99, 111, 110, 115, 105, 115, 116, 101, 110, 116]), .lit (.string [99, 111, 117, 110, 116]), .lit (.string [101, 108, 115, 101]), .lit (.string [102, 97, 99, 116, 111, 114]), .lit (.string [102, 114, 111, 109]), .lit (.string [104, 105, 115, 116, 111, 103, 114, 97, 109]), .lit (.string [105, 100, 101, 110, 116, 105, 116, 121]), .lit (.string [105, 102]), .lit (.string [106, 111, 105, 110]), .lit (.string [107, 101, 101, 112]), .lit (.string [108, 97, 116, 101]), .lit (.string [108, 105, 109, 105, 116]), .lit (.string [109, 111, 100, 101]), .lit (.string [110, 111, 110, 101]), .lit (.string [110, 111, 116]), .lit (.string [111, 102]), .lit (.string [111, 110]), .lit (.string [111, 114]), .lit (.string [112, 101, 97, 107]), .lit (.string [112, 114, 101, 102, 105, 120]), .lit (.string [113, 117, 97, 110, 116, 105, 108, 101]), .lit (.string [114, 117, 110, 110, 105, 110, 103]), .lit (.string [115, 117, 109]), .lit (.string [116, 104, 101, 110]), .lit (.string [116, 111, 116, 97, 108]), .lit (.string [116, 114, 101, 101]), .lit (.string [117, 115, 105, 110, 103]), .lit (.string [119, 104, 101, 114, 101]), .lit (.string [119, 105, 116, 104])]
/-- One of Go's own tables, pinned by name: the form's constant. -/
def laid_unicode_utf8_first : DataW Unit := Go.Pinned.utf8First

/-- 'privhouselaw15.CheckMore': WHATEVER THE INPUT: true; the input reads as it did. -/
def checkMoreSpec : ChangeSpec := { name := "checkMore", fn := fun _ => fun
  | [d1, d2, d3] => { results := [.lit (.bool true)], args := [d1, d2, d3] }
  | _ => none }
def checkMoreRow : OpenClaim := { program := "ytajaampgajieeaagreatdoor", sum := "8b01d9c2d980de4c9825022486fc226472fe28416b12c5abdfa3a919c7409205", func := "privhouse/privhouselaw15.CheckMore", spec := "checkMore", inPlace := ["internal/bytealg.IndexByteString", "internal/bytealg.IndexString"], unfollowed := true, recurses := true, named := ["privhouse/schema.reserved", "internal/bytealg.MaxLen", "unicode/utf8.first", "unicode/utf8.acceptRanges", "strconv.ErrSyntax", "strconv.ErrRange", "internal/strconv.uint64pow10", "math/bits.deBruijn32tab", "math/bits.deBruijn64tab"], plainKeys := false, apart := false, laid := [("math/bits.deBruijn32tab", laid_math_bits_deBruijn32tab), ("math/bits.deBruijn64tab", laid_math_bits_deBruijn64tab), ("internal/strconv.uint64pow10", laid_internal_strconv_uint64pow10), ("unicode/utf8.acceptRanges", laid_unicode_utf8_acceptRanges), ("strconv.ErrRange", laid_strconv_ErrRange), ("strconv.ErrSyntax", laid_strconv_ErrSyntax), ("privhouse/schema.reserved", laid_privhouse_schema_reserved), ("unicode/utf8.first", laid_unicode_utf8_first)] }
def CheckMoreSaid : Prop := checkMoreRow.holds Tryz.pinned (OpenSpec.ofChange checkMoreSpec)

/-- ITS FALSE NEIGHBOUR: 'it returns false'. Refute it at one input. -/
def checkMoreWrong : ChangeSpec := { name := "checkMore", fn := fun _ => fun
  | [d1, d2, d3] => { results := [.lit (.bool false)], args := [d1, d2, d3] }
  | _ => none }
def CheckMoreWrongFalsely : Prop := checkMoreRow.holds Tryz.pinned (OpenSpec.ofChange checkMoreWrong)

/-- 'privhouselaw15.CheckQueries': WHATEVER THE INPUT: true; the input reads as it did. -/
def checkQueriesSpec : ChangeSpec := { name := "checkQueries", fn := fun _ => fun
  | [d1, d2] => { results := [.lit (.bool true)], args := [d1, d2] }
  | _ => none }
def checkQueriesRow : OpenClaim := { program := "ytajaampgajieeaagreatdoor", sum := "8b01d9c2d980de4c9825022486fc226472fe28416b12c5abdfa3a919c7409205", func := "privhouse/privhouselaw15.CheckQueries", spec := "checkQueries", inPlace := ["internal/bytealg.IndexByteString", "internal/bytealg.IndexString"], unfollowed := true, recurses := true, named := ["privhouse/schema.reserved", "internal/bytealg.MaxLen", "unicode/utf8.first", "unicode/utf8.acceptRanges", "strconv.ErrSyntax", "strconv.ErrRange", "internal/strconv.uint64pow10", "math/bits.deBruijn32tab", "math/bits.deBruijn64tab"], plainKeys := false, apart := false, laid := [("math/bits.deBruijn32tab", laid_math_bits_deBruijn32tab), ("math/bits.deBruijn64tab", laid_math_bits_deBruijn64tab), ("internal/strconv.uint64pow10", laid_internal_strconv_uint64pow10), ("unicode/utf8.acceptRanges", laid_unicode_utf8_acceptRanges), ("strconv.ErrRange", laid_strconv_ErrRange), ("strconv.ErrSyntax", laid_strconv_ErrSyntax), ("privhouse/schema.reserved", laid_privhouse_schema_reserved), ("unicode/utf8.first", laid_unicode_utf8_first)] }
def CheckQueriesSaid : Prop := checkQueriesRow.holds Tryz.pinned (OpenSpec.ofChange checkQueriesSpec)

/-- ITS FALSE NEIGHBOUR: 'it returns false'. Refute it at one input. -/
def checkQueriesWrong : ChangeSpec := { name := "checkQueries", fn := fun _ => fun
  | [d1, d2] => { results := [.lit (.bool false)], args := [d1, d2] }
  | _ => none }
def CheckQueriesWrongFalsely : Prop := checkQueriesRow.holds Tryz.pinned (OpenSpec.ofChange checkQueriesWrong)

/-- 'privhouselaw19.SensRanks': WHATEVER THE INPUT: true; the input reads as it did. -/
def sensRanksSpec : ChangeSpec := { name := "sensRanks", fn := fun _ => fun
  | [d1, d2, d3, d4] => { results := [.lit (.bool true)], args := [d1, d2, d3, d4] }
  | _ => none }
def sensRanksRow : OpenClaim := { program := "ytajaampgajieeaagreatdoor", sum := "8b01d9c2d980de4c9825022486fc226472fe28416b12c5abdfa3a919c7409205", func := "privhouse/privhouselaw19.SensRanks", spec := "sensRanks", inPlace := ["internal/bytealg.IndexByteString", "internal/bytealg.IndexString"], unfollowed := true, recurses := true, named := ["privhouse/schema.reserved", "internal/bytealg.MaxLen", "unicode/utf8.first", "unicode/utf8.acceptRanges", "strconv.ErrSyntax", "strconv.ErrRange", "internal/strconv.uint64pow10", "math/bits.deBruijn32tab", "math/bits.deBruijn64tab"], plainKeys := false, apart := false, laid := [("math/bits.deBruijn32tab", laid_math_bits_deBruijn32tab), ("math/bits.deBruijn64tab", laid_math_bits_deBruijn64tab), ("internal/strconv.uint64pow10", laid_internal_strconv_uint64pow10), ("unicode/utf8.acceptRanges", laid_unicode_utf8_acceptRanges), ("strconv.ErrRange", laid_strconv_ErrRange), ("strconv.ErrSyntax", laid_strconv_ErrSyntax), ("privhouse/schema.reserved", laid_privhouse_schema_reserved), ("unicode/utf8.first", laid_unicode_utf8_first)] }
def SensRanksSaid : Prop := sensRanksRow.holds Tryz.pinned (OpenSpec.ofChange sensRanksSpec)

/-- ITS FALSE NEIGHBOUR: 'it returns false'. Refute it at one input. -/
def sensRanksWrong : ChangeSpec := { name := "sensRanks", fn := fun _ => fun
  | [d1, d2, d3, d4] => { results := [.lit (.bool false)], args := [d1, d2, d3, d4] }
  | _ => none }
def SensRanksWrongFalsely : Prop := sensRanksRow.holds Tryz.pinned (OpenSpec.ofChange sensRanksWrong)

/-- 'privhouselaw19.SensBounds': WHATEVER THE INPUT: true; the input reads as it did. -/
def sensBoundsSpec : ChangeSpec := { name := "sensBounds", fn := fun _ => fun
  | [d1, d2, d3, d4] => { results := [.lit (.bool true)], args := [d1, d2, d3, d4] }
  | _ => none }
def sensBoundsRow : OpenClaim := { program := "ytajaampgajieeaagreatdoor", sum := "8b01d9c2d980de4c9825022486fc226472fe28416b12c5abdfa3a919c7409205", func := "privhouse/privhouselaw19.SensBounds", spec := "sensBounds", inPlace := ["internal/bytealg.IndexByteString", "internal/bytealg.IndexString"], unfollowed := true, recurses := true, named := ["privhouse/schema.reserved", "internal/bytealg.MaxLen", "unicode/utf8.first", "unicode/utf8.acceptRanges", "strconv.ErrSyntax", "strconv.ErrRange", "internal/strconv.uint64pow10", "math/bits.deBruijn32tab", "math/bits.deBruijn64tab"], plainKeys := false, apart := false, laid := [("math/bits.deBruijn32tab", laid_math_bits_deBruijn32tab), ("math/bits.deBruijn64tab", laid_math_bits_deBruijn64tab), ("internal/strconv.uint64pow10", laid_internal_strconv_uint64pow10), ("unicode/utf8.acceptRanges", laid_unicode_utf8_acceptRanges), ("strconv.ErrRange", laid_strconv_ErrRange), ("strconv.ErrSyntax", laid_strconv_ErrSyntax), ("privhouse/schema.reserved", laid_privhouse_schema_reserved), ("unicode/utf8.first", laid_unicode_utf8_first)] }
def SensBoundsSaid : Prop := sensBoundsRow.holds Tryz.pinned (OpenSpec.ofChange sensBoundsSpec)

/-- ITS FALSE NEIGHBOUR: 'it returns false'. Refute it at one input. -/
def sensBoundsWrong : ChangeSpec := { name := "sensBounds", fn := fun _ => fun
  | [d1, d2, d3, d4] => { results := [.lit (.bool false)], args := [d1, d2, d3, d4] }
  | _ => none }
def SensBoundsWrongFalsely : Prop := sensBoundsRow.holds Tryz.pinned (OpenSpec.ofChange sensBoundsWrong)

/-- 'privhouselaw19.SensNumbers': WHATEVER THE INPUT: true; the input reads as it did. -/
def sensNumbersSpec : ChangeSpec := { name := "sensNumbers", fn := fun _ => fun
  | [d1, d2, d3] => { results := [.lit (.bool true)], args := [d1, d2, d3] }
  | _ => none }
def sensNumbersRow : OpenClaim := { program := "ytajaampgajieeaagreatdoor", sum := "8b01d9c2d980de4c9825022486fc226472fe28416b12c5abdfa3a919c7409205", func := "privhouse/privhouselaw19.SensNumbers", spec := "sensNumbers", inPlace := ["internal/bytealg.IndexByteString", "internal/bytealg.IndexString"], unfollowed := true, recurses := true, named := ["privhouse/schema.reserved", "internal/bytealg.MaxLen", "unicode/utf8.first", "unicode/utf8.acceptRanges", "strconv.ErrSyntax", "strconv.ErrRange", "internal/strconv.uint64pow10", "math/bits.deBruijn32tab", "math/bits.deBruijn64tab"], plainKeys := false, apart := false, laid := [("math/bits.deBruijn32tab", laid_math_bits_deBruijn32tab), ("math/bits.deBruijn64tab", laid_math_bits_deBruijn64tab), ("internal/strconv.uint64pow10", laid_internal_strconv_uint64pow10), ("unicode/utf8.acceptRanges", laid_unicode_utf8_acceptRanges), ("strconv.ErrRange", laid_strconv_ErrRange), ("strconv.ErrSyntax", laid_strconv_ErrSyntax), ("privhouse/schema.reserved", laid_privhouse_schema_reserved), ("unicode/utf8.first", laid_unicode_utf8_first)] }
def SensNumbersSaid : Prop := sensNumbersRow.holds Tryz.pinned (OpenSpec.ofChange sensNumbersSpec)

/-- ITS FALSE NEIGHBOUR: 'it returns false'. Refute it at one input. -/
def sensNumbersWrong : ChangeSpec := { name := "sensNumbers", fn := fun _ => fun
  | [d1, d2, d3] => { results := [.lit (.bool false)], args := [d1, d2, d3] }
  | _ => none }
def SensNumbersWrongFalsely : Prop := sensNumbersRow.holds Tryz.pinned (OpenSpec.ofChange sensNumbersWrong)

/-- 'privhouselaw18.RelViews': WHATEVER THE INPUT: true; the input reads as it did. -/
def relViewsSpec : ChangeSpec := { name := "relViews", fn := fun _ => fun
  | [d1, d2] => { results := [.lit (.bool true)], args := [d1, d2] }
  | _ => none }
def relViewsRow : OpenClaim := { program := "ytajaampgajieeaagreatdoor", sum := "8b01d9c2d980de4c9825022486fc226472fe28416b12c5abdfa3a919c7409205", func := "privhouse/privhouselaw18.RelViews", spec := "relViews", inPlace := ["internal/bytealg.IndexByteString", "internal/bytealg.IndexString"], unfollowed := true, recurses := true, named := ["privhouse/schema.reserved", "internal/bytealg.MaxLen", "unicode/utf8.first", "unicode/utf8.acceptRanges", "strconv.ErrSyntax", "strconv.ErrRange", "internal/strconv.uint64pow10", "math/bits.deBruijn32tab", "math/bits.deBruijn64tab"], plainKeys := false, apart := false, laid := [("math/bits.deBruijn32tab", laid_math_bits_deBruijn32tab), ("math/bits.deBruijn64tab", laid_math_bits_deBruijn64tab), ("internal/strconv.uint64pow10", laid_internal_strconv_uint64pow10), ("unicode/utf8.acceptRanges", laid_unicode_utf8_acceptRanges), ("strconv.ErrRange", laid_strconv_ErrRange), ("strconv.ErrSyntax", laid_strconv_ErrSyntax), ("privhouse/schema.reserved", laid_privhouse_schema_reserved), ("unicode/utf8.first", laid_unicode_utf8_first)] }
def RelViewsSaid : Prop := relViewsRow.holds Tryz.pinned (OpenSpec.ofChange relViewsSpec)

/-- ITS FALSE NEIGHBOUR: 'it returns false'. Refute it at one input. -/
def relViewsWrong : ChangeSpec := { name := "relViews", fn := fun _ => fun
  | [d1, d2] => { results := [.lit (.bool false)], args := [d1, d2] }
  | _ => none }
def RelViewsWrongFalsely : Prop := relViewsRow.holds Tryz.pinned (OpenSpec.ofChange relViewsWrong)

/-- 'privhouselaw18.RelCells': WHATEVER THE INPUT: true; the input reads as it did. -/
def relCellsSpec : ChangeSpec := { name := "relCells", fn := fun _ => fun
  | [d1, d2] => { results := [.lit (.bool true)], args := [d1, d2] }
  | _ => none }
def relCellsRow : OpenClaim := { program := "ytajaampgajieeaagreatdoor", sum := "8b01d9c2d980de4c9825022486fc226472fe28416b12c5abdfa3a919c7409205", func := "privhouse/privhouselaw18.RelCells", spec := "relCells", inPlace := ["internal/bytealg.IndexByteString", "internal/bytealg.IndexString"], unfollowed := true, recurses := true, named := ["privhouse/schema.reserved", "internal/bytealg.MaxLen", "unicode/utf8.first", "unicode/utf8.acceptRanges", "strconv.ErrSyntax", "strconv.ErrRange", "internal/strconv.uint64pow10", "math/bits.deBruijn32tab", "math/bits.deBruijn64tab"], plainKeys := false, apart := false, laid := [("math/bits.deBruijn32tab", laid_math_bits_deBruijn32tab), ("math/bits.deBruijn64tab", laid_math_bits_deBruijn64tab), ("internal/strconv.uint64pow10", laid_internal_strconv_uint64pow10), ("unicode/utf8.acceptRanges", laid_unicode_utf8_acceptRanges), ("strconv.ErrRange", laid_strconv_ErrRange), ("strconv.ErrSyntax", laid_strconv_ErrSyntax), ("privhouse/schema.reserved", laid_privhouse_schema_reserved), ("unicode/utf8.first", laid_unicode_utf8_first)] }
def RelCellsSaid : Prop := relCellsRow.holds Tryz.pinned (OpenSpec.ofChange relCellsSpec)

/-- ITS FALSE NEIGHBOUR: 'it returns false'. Refute it at one input. -/
def relCellsWrong : ChangeSpec := { name := "relCells", fn := fun _ => fun
  | [d1, d2] => { results := [.lit (.bool false)], args := [d1, d2] }
  | _ => none }
def RelCellsWrongFalsely : Prop := relCellsRow.holds Tryz.pinned (OpenSpec.ofChange relCellsWrong)

/-- 'privhouselaw18.RelRows': WHATEVER THE INPUT: true; the input reads as it did. -/
def relRowsSpec : ChangeSpec := { name := "relRows", fn := fun _ => fun
  | [d1, d2] => { results := [.lit (.bool true)], args := [d1, d2] }
  | _ => none }
def relRowsRow : OpenClaim := { program := "ytajaampgajieeaagreatdoor", sum := "8b01d9c2d980de4c9825022486fc226472fe28416b12c5abdfa3a919c7409205", func := "privhouse/privhouselaw18.RelRows", spec := "relRows", inPlace := ["internal/bytealg.IndexByteString", "internal/bytealg.IndexString"], unfollowed := true, recurses := true, named := ["privhouse/schema.reserved", "internal/bytealg.MaxLen", "unicode/utf8.first", "unicode/utf8.acceptRanges", "strconv.ErrSyntax", "strconv.ErrRange", "internal/strconv.uint64pow10", "math/bits.deBruijn32tab", "math/bits.deBruijn64tab"], plainKeys := false, apart := false, laid := [("math/bits.deBruijn32tab", laid_math_bits_deBruijn32tab), ("math/bits.deBruijn64tab", laid_math_bits_deBruijn64tab), ("internal/strconv.uint64pow10", laid_internal_strconv_uint64pow10), ("unicode/utf8.acceptRanges", laid_unicode_utf8_acceptRanges), ("strconv.ErrRange", laid_strconv_ErrRange), ("strconv.ErrSyntax", laid_strconv_ErrSyntax), ("privhouse/schema.reserved", laid_privhouse_schema_reserved), ("unicode/utf8.first", laid_unicode_utf8_first)] }
def RelRowsSaid : Prop := relRowsRow.holds Tryz.pinned (OpenSpec.ofChange relRowsSpec)

/-- ITS FALSE NEIGHBOUR: 'it returns false'. Refute it at one input. -/
def relRowsWrong : ChangeSpec := { name := "relRows", fn := fun _ => fun
  | [d1, d2] => { results := [.lit (.bool false)], args := [d1, d2] }
  | _ => none }
def RelRowsWrongFalsely : Prop := relRowsRow.holds Tryz.pinned (OpenSpec.ofChange relRowsWrong)

/-- 'privhouselaw18.RelAdds': WHATEVER THE INPUT: true; the input reads as it did. -/
def relAddsSpec : ChangeSpec := { name := "relAdds", fn := fun _ => fun
  | [d1, d2] => { results := [.lit (.bool true)], args := [d1, d2] }
  | _ => none }
def relAddsRow : OpenClaim := { program := "ytajaampgajieeaagreatdoor", sum := "8b01d9c2d980de4c9825022486fc226472fe28416b12c5abdfa3a919c7409205", func := "privhouse/privhouselaw18.RelAdds", spec := "relAdds", inPlace := ["internal/bytealg.IndexByteString", "internal/bytealg.IndexString"], unfollowed := true, recurses := true, named := ["privhouse/schema.reserved", "internal/bytealg.MaxLen", "unicode/utf8.first", "unicode/utf8.acceptRanges", "strconv.ErrSyntax", "strconv.ErrRange", "internal/strconv.uint64pow10", "math/bits.deBruijn32tab", "math/bits.deBruijn64tab"], plainKeys := false, apart := false, laid := [("math/bits.deBruijn32tab", laid_math_bits_deBruijn32tab), ("math/bits.deBruijn64tab", laid_math_bits_deBruijn64tab), ("internal/strconv.uint64pow10", laid_internal_strconv_uint64pow10), ("unicode/utf8.acceptRanges", laid_unicode_utf8_acceptRanges), ("strconv.ErrRange", laid_strconv_ErrRange), ("strconv.ErrSyntax", laid_strconv_ErrSyntax), ("privhouse/schema.reserved", laid_privhouse_schema_reserved), ("unicode/utf8.first", laid_unicode_utf8_first)] }
def RelAddsSaid : Prop := relAddsRow.holds Tryz.pinned (OpenSpec.ofChange relAddsSpec)

/-- ITS FALSE NEIGHBOUR: 'it returns false'. Refute it at one input. -/
def relAddsWrong : ChangeSpec := { name := "relAdds", fn := fun _ => fun
  | [d1, d2] => { results := [.lit (.bool false)], args := [d1, d2] }
  | _ => none }
def RelAddsWrongFalsely : Prop := relAddsRow.holds Tryz.pinned (OpenSpec.ofChange relAddsWrong)

/-- 'privhouselaw18.RelOwners': WHATEVER THE INPUT: true; the input reads as it did. -/
def relOwnersSpec : ChangeSpec := { name := "relOwners", fn := fun _ => fun
  | [d1, d2, d3] => { results := [.lit (.bool true)], args := [d1, d2, d3] }
  | _ => none }
def relOwnersRow : OpenClaim := { program := "ytajaampgajieeaagreatdoor", sum := "8b01d9c2d980de4c9825022486fc226472fe28416b12c5abdfa3a919c7409205", func := "privhouse/privhouselaw18.RelOwners", spec := "relOwners", inPlace := ["internal/bytealg.IndexByteString", "internal/bytealg.IndexString"], unfollowed := true, recurses := true, named := ["privhouse/schema.reserved", "internal/bytealg.MaxLen", "unicode/utf8.first", "unicode/utf8.acceptRanges", "strconv.ErrSyntax", "strconv.ErrRange", "internal/strconv.uint64pow10", "math/bits.deBruijn32tab", "math/bits.deBruijn64tab"], plainKeys := false, apart := false, laid := [("math/bits.deBruijn32tab", laid_math_bits_deBruijn32tab), ("math/bits.deBruijn64tab", laid_math_bits_deBruijn64tab), ("internal/strconv.uint64pow10", laid_internal_strconv_uint64pow10), ("unicode/utf8.acceptRanges", laid_unicode_utf8_acceptRanges), ("strconv.ErrRange", laid_strconv_ErrRange), ("strconv.ErrSyntax", laid_strconv_ErrSyntax), ("privhouse/schema.reserved", laid_privhouse_schema_reserved), ("unicode/utf8.first", laid_unicode_utf8_first)] }
def RelOwnersSaid : Prop := relOwnersRow.holds Tryz.pinned (OpenSpec.ofChange relOwnersSpec)

/-- ITS FALSE NEIGHBOUR: 'it returns false'. Refute it at one input. -/
def relOwnersWrong : ChangeSpec := { name := "relOwners", fn := fun _ => fun
  | [d1, d2, d3] => { results := [.lit (.bool false)], args := [d1, d2, d3] }
  | _ => none }
def RelOwnersWrongFalsely : Prop := relOwnersRow.holds Tryz.pinned (OpenSpec.ofChange relOwnersWrong)

/-- 'privhouselaw19.SensTrees': WHATEVER THE INPUT: true; the input reads as it did. -/
def sensTreesSpec : ChangeSpec := { name := "sensTrees", fn := fun _ => fun
  | [d1, d2, d3, d4] => { results := [.lit (.bool true)], args := [d1, d2, d3, d4] }
  | _ => none }
def sensTreesRow : OpenClaim := { program := "ytajaampgajieeaagreatdoor", sum := "8b01d9c2d980de4c9825022486fc226472fe28416b12c5abdfa3a919c7409205", func := "privhouse/privhouselaw19.SensTrees", spec := "sensTrees", inPlace := ["internal/bytealg.IndexByteString", "internal/bytealg.IndexString"], unfollowed := true, recurses := true, named := ["privhouse/schema.reserved", "internal/bytealg.MaxLen", "unicode/utf8.first", "unicode/utf8.acceptRanges", "strconv.ErrSyntax", "strconv.ErrRange", "internal/strconv.uint64pow10", "math/bits.deBruijn32tab", "math/bits.deBruijn64tab"], plainKeys := false, apart := false, laid := [("math/bits.deBruijn32tab", laid_math_bits_deBruijn32tab), ("math/bits.deBruijn64tab", laid_math_bits_deBruijn64tab), ("internal/strconv.uint64pow10", laid_internal_strconv_uint64pow10), ("unicode/utf8.acceptRanges", laid_unicode_utf8_acceptRanges), ("strconv.ErrRange", laid_strconv_ErrRange), ("strconv.ErrSyntax", laid_strconv_ErrSyntax), ("privhouse/schema.reserved", laid_privhouse_schema_reserved), ("unicode/utf8.first", laid_unicode_utf8_first)] }
def SensTreesSaid : Prop := sensTreesRow.holds Tryz.pinned (OpenSpec.ofChange sensTreesSpec)

/-- ITS FALSE NEIGHBOUR: 'it returns false'. Refute it at one input. -/
def sensTreesWrong : ChangeSpec := { name := "sensTrees", fn := fun _ => fun
  | [d1, d2, d3, d4] => { results := [.lit (.bool false)], args := [d1, d2, d3, d4] }
  | _ => none }
def SensTreesWrongFalsely : Prop := sensTreesRow.holds Tryz.pinned (OpenSpec.ofChange sensTreesWrong)

/- THE SECOND FORM. 'bulk': how many values and letters a reading holds, each counted each time it is reached (what is shared counts as often as it is met; a slice's spare places count too). A statement '..UptoSaid' is the law's where the arguments, and the package variables that the reading takes, are together of bulk at most 1048576: NARROWER than '..Said'. Prove '..Said' where nothing that the law and all that it calls make is longer than what came in: it says more and counts as full. Else prove '..UptoSaid'. A law counts once. -/
mutual
def uptoBulk {H : Type} : DataW H → Nat
  | .lit (.string bytes) => bytes.length + 1
  | .lit _ => 1
  | .nil => 1
  | .ptr d => uptoBulk d + 1
  | .slice elems spare => uptoBulkAll elems + uptoBulkAll spare + 1
  | .agg parts => uptoBulkAll parts + 1
  | .iface _ d => uptoBulk d + 1
  | .map entries => uptoBulkEntries entries + 1
  | .held _ => 1
def uptoBulkAll {H : Type} : List (DataW H) → Nat
  | [] => 0
  | d :: r => uptoBulk d + uptoBulkAll r
def uptoBulkEntries {H : Type} : List (Lit × DataW H) → Nat
  | [] => 0
  | x :: r => uptoBulkEntry x + uptoBulkEntries r
def uptoBulkEntry {H : Type} : Lit × DataW H → Nat
  | (.string bytes, d) => bytes.length + uptoBulk d + 1
  | (_, d) => uptoBulk d + 1
 end
def uptoSmall : (H : Type) → List (DataW H) → Bool := fun _ ds => decide (uptoBulkAll ds ≤ 1048576)
def OpenSpec.upto (s : _root_.Go.ChangeSpec) : _root_.Go.OpenSpec := { _root_.Go.OpenSpec.ofChange s with cond := some uptoSmall }

/-- 'privhouselaw15.CheckMore', WHERE WHAT IT READS IS OF BULK AT MOST 1048576: true; the input reads as it did. -/
def checkMoreUptoRow : OpenClaim := { program := "ytajaampgajieeaagreatdoor", sum := "8b01d9c2d980de4c9825022486fc226472fe28416b12c5abdfa3a919c7409205", func := "privhouse/privhouselaw15.CheckMore", spec := "checkMore", inPlace := ["internal/bytealg.IndexByteString", "internal/bytealg.IndexString"], unfollowed := true, recurses := true, named := ["privhouse/schema.reserved", "internal/bytealg.MaxLen", "unicode/utf8.first", "unicode/utf8.acceptRanges", "strconv.ErrSyntax", "strconv.ErrRange", "internal/strconv.uint64pow10", "math/bits.deBruijn32tab", "math/bits.deBruijn64tab"], plainKeys := false, apart := false, laid := [("math/bits.deBruijn32tab", laid_math_bits_deBruijn32tab), ("math/bits.deBruijn64tab", laid_math_bits_deBruijn64tab), ("internal/strconv.uint64pow10", laid_internal_strconv_uint64pow10), ("unicode/utf8.acceptRanges", laid_unicode_utf8_acceptRanges), ("strconv.ErrRange", laid_strconv_ErrRange), ("strconv.ErrSyntax", laid_strconv_ErrSyntax), ("privhouse/schema.reserved", laid_privhouse_schema_reserved), ("unicode/utf8.first", laid_unicode_utf8_first)], narrowed := true }
def CheckMoreUptoSaid : Prop := checkMoreUptoRow.holds Tryz.pinned (OpenSpec.upto checkMoreSpec)

/-- 'privhouselaw15.CheckQueries', WHERE WHAT IT READS IS OF BULK AT MOST 1048576: true; the input reads as it did. -/
def checkQueriesUptoRow : OpenClaim := { program := "ytajaampgajieeaagreatdoor", sum := "8b01d9c2d980de4c9825022486fc226472fe28416b12c5abdfa3a919c7409205", func := "privhouse/privhouselaw15.CheckQueries", spec := "checkQueries", inPlace := ["internal/bytealg.IndexByteString", "internal/bytealg.IndexString"], unfollowed := true, recurses := true, named := ["privhouse/schema.reserved", "internal/bytealg.MaxLen", "unicode/utf8.first", "unicode/utf8.acceptRanges", "strconv.ErrSyntax", "strconv.ErrRange", "internal/strconv.uint64pow10", "math/bits.deBruijn32tab", "math/bits.deBruijn64tab"], plainKeys := false, apart := false, laid := [("math/bits.deBruijn32tab", laid_math_bits_deBruijn32tab), ("math/bits.deBruijn64tab", laid_math_bits_deBruijn64tab), ("internal/strconv.uint64pow10", laid_internal_strconv_uint64pow10), ("unicode/utf8.acceptRanges", laid_unicode_utf8_acceptRanges), ("strconv.ErrRange", laid_strconv_ErrRange), ("strconv.ErrSyntax", laid_strconv_ErrSyntax), ("privhouse/schema.reserved", laid_privhouse_schema_reserved), ("unicode/utf8.first", laid_unicode_utf8_first)], narrowed := true }
def CheckQueriesUptoSaid : Prop := checkQueriesUptoRow.holds Tryz.pinned (OpenSpec.upto checkQueriesSpec)

/-- 'privhouselaw19.SensRanks', WHERE WHAT IT READS IS OF BULK AT MOST 1048576: true; the input reads as it did. -/
def sensRanksUptoRow : OpenClaim := { program := "ytajaampgajieeaagreatdoor", sum := "8b01d9c2d980de4c9825022486fc226472fe28416b12c5abdfa3a919c7409205", func := "privhouse/privhouselaw19.SensRanks", spec := "sensRanks", inPlace := ["internal/bytealg.IndexByteString", "internal/bytealg.IndexString"], unfollowed := true, recurses := true, named := ["privhouse/schema.reserved", "internal/bytealg.MaxLen", "unicode/utf8.first", "unicode/utf8.acceptRanges", "strconv.ErrSyntax", "strconv.ErrRange", "internal/strconv.uint64pow10", "math/bits.deBruijn32tab", "math/bits.deBruijn64tab"], plainKeys := false, apart := false, laid := [("math/bits.deBruijn32tab", laid_math_bits_deBruijn32tab), ("math/bits.deBruijn64tab", laid_math_bits_deBruijn64tab), ("internal/strconv.uint64pow10", laid_internal_strconv_uint64pow10), ("unicode/utf8.acceptRanges", laid_unicode_utf8_acceptRanges), ("strconv.ErrRange", laid_strconv_ErrRange), ("strconv.ErrSyntax", laid_strconv_ErrSyntax), ("privhouse/schema.reserved", laid_privhouse_schema_reserved), ("unicode/utf8.first", laid_unicode_utf8_first)], narrowed := true }
def SensRanksUptoSaid : Prop := sensRanksUptoRow.holds Tryz.pinned (OpenSpec.upto sensRanksSpec)

/-- 'privhouselaw19.SensBounds', WHERE WHAT IT READS IS OF BULK AT MOST 1048576: true; the input reads as it did. -/
def sensBoundsUptoRow : OpenClaim := { program := "ytajaampgajieeaagreatdoor", sum := "8b01d9c2d980de4c9825022486fc226472fe28416b12c5abdfa3a919c7409205", func := "privhouse/privhouselaw19.SensBounds", spec := "sensBounds", inPlace := ["internal/bytealg.IndexByteString", "internal/bytealg.IndexString"], unfollowed := true, recurses := true, named := ["privhouse/schema.reserved", "internal/bytealg.MaxLen", "unicode/utf8.first", "unicode/utf8.acceptRanges", "strconv.ErrSyntax", "strconv.ErrRange", "internal/strconv.uint64pow10", "math/bits.deBruijn32tab", "math/bits.deBruijn64tab"], plainKeys := false, apart := false, laid := [("math/bits.deBruijn32tab", laid_math_bits_deBruijn32tab), ("math/bits.deBruijn64tab", laid_math_bits_deBruijn64tab), ("internal/strconv.uint64pow10", laid_internal_strconv_uint64pow10), ("unicode/utf8.acceptRanges", laid_unicode_utf8_acceptRanges), ("strconv.ErrRange", laid_strconv_ErrRange), ("strconv.ErrSyntax", laid_strconv_ErrSyntax), ("privhouse/schema.reserved", laid_privhouse_schema_reserved), ("unicode/utf8.first", laid_unicode_utf8_first)], narrowed := true }
def SensBoundsUptoSaid : Prop := sensBoundsUptoRow.holds Tryz.pinned (OpenSpec.upto sensBoundsSpec)

/-- 'privhouselaw19.SensNumbers', WHERE WHAT IT READS IS OF BULK AT MOST 1048576: true; the input reads as it did. -/
def sensNumbersUptoRow : OpenClaim := { program := "ytajaampgajieeaagreatdoor", sum := "8b01d9c2d980de4c9825022486fc226472fe28416b12c5abdfa3a919c7409205", func := "privhouse/privhouselaw19.SensNumbers", spec := "sensNumbers", inPlace := ["internal/bytealg.IndexByteString", "internal/bytealg.IndexString"], unfollowed := true, recurses := true, named := ["privhouse/schema.reserved", "internal/bytealg.MaxLen", "unicode/utf8.first", "unicode/utf8.acceptRanges", "strconv.ErrSyntax", "strconv.ErrRange", "internal/strconv.uint64pow10", "math/bits.deBruijn32tab", "math/bits.deBruijn64tab"], plainKeys := false, apart := false, laid := [("math/bits.deBruijn32tab", laid_math_bits_deBruijn32tab), ("math/bits.deBruijn64tab", laid_math_bits_deBruijn64tab), ("internal/strconv.uint64pow10", laid_internal_strconv_uint64pow10), ("unicode/utf8.acceptRanges", laid_unicode_utf8_acceptRanges), ("strconv.ErrRange", laid_strconv_ErrRange), ("strconv.ErrSyntax", laid_strconv_ErrSyntax), ("privhouse/schema.reserved", laid_privhouse_schema_reserved), ("unicode/utf8.first", laid_unicode_utf8_first)], narrowed := true }
def SensNumbersUptoSaid : Prop := sensNumbersUptoRow.holds Tryz.pinned (OpenSpec.upto sensNumbersSpec)

/-- 'privhouselaw18.RelViews', WHERE WHAT IT READS IS OF BULK AT MOST 1048576: true; the input reads as it did. -/
def relViewsUptoRow : OpenClaim := { program := "ytajaampgajieeaagreatdoor", sum := "8b01d9c2d980de4c9825022486fc226472fe28416b12c5abdfa3a919c7409205", func := "privhouse/privhouselaw18.RelViews", spec := "relViews", inPlace := ["internal/bytealg.IndexByteString", "internal/bytealg.IndexString"], unfollowed := true, recurses := true, named := ["privhouse/schema.reserved", "internal/bytealg.MaxLen", "unicode/utf8.first", "unicode/utf8.acceptRanges", "strconv.ErrSyntax", "strconv.ErrRange", "internal/strconv.uint64pow10", "math/bits.deBruijn32tab", "math/bits.deBruijn64tab"], plainKeys := false, apart := false, laid := [("math/bits.deBruijn32tab", laid_math_bits_deBruijn32tab), ("math/bits.deBruijn64tab", laid_math_bits_deBruijn64tab), ("internal/strconv.uint64pow10", laid_internal_strconv_uint64pow10), ("unicode/utf8.acceptRanges", laid_unicode_utf8_acceptRanges), ("strconv.ErrRange", laid_strconv_ErrRange), ("strconv.ErrSyntax", laid_strconv_ErrSyntax), ("privhouse/schema.reserved", laid_privhouse_schema_reserved), ("unicode/utf8.first", laid_unicode_utf8_first)], narrowed := true }
def RelViewsUptoSaid : Prop := relViewsUptoRow.holds Tryz.pinned (OpenSpec.upto relViewsSpec)

/-- 'privhouselaw18.RelCells', WHERE WHAT IT READS IS OF BULK AT MOST 1048576: true; the input reads as it did. -/
def relCellsUptoRow : OpenClaim := { program := "ytajaampgajieeaagreatdoor", sum := "8b01d9c2d980de4c9825022486fc226472fe28416b12c5abdfa3a919c7409205", func := "privhouse/privhouselaw18.RelCells", spec := "relCells", inPlace := ["internal/bytealg.IndexByteString", "internal/bytealg.IndexString"], unfollowed := true, recurses := true, named := ["privhouse/schema.reserved", "internal/bytealg.MaxLen", "unicode/utf8.first", "unicode/utf8.acceptRanges", "strconv.ErrSyntax", "strconv.ErrRange", "internal/strconv.uint64pow10", "math/bits.deBruijn32tab", "math/bits.deBruijn64tab"], plainKeys := false, apart := false, laid := [("math/bits.deBruijn32tab", laid_math_bits_deBruijn32tab), ("math/bits.deBruijn64tab", laid_math_bits_deBruijn64tab), ("internal/strconv.uint64pow10", laid_internal_strconv_uint64pow10), ("unicode/utf8.acceptRanges", laid_unicode_utf8_acceptRanges), ("strconv.ErrRange", laid_strconv_ErrRange), ("strconv.ErrSyntax", laid_strconv_ErrSyntax), ("privhouse/schema.reserved", laid_privhouse_schema_reserved), ("unicode/utf8.first", laid_unicode_utf8_first)], narrowed := true }
def RelCellsUptoSaid : Prop := relCellsUptoRow.holds Tryz.pinned (OpenSpec.upto relCellsSpec)

/-- 'privhouselaw18.RelRows', WHERE WHAT IT READS IS OF BULK AT MOST 1048576: true; the input reads as it did. -/
def relRowsUptoRow : OpenClaim := { program := "ytajaampgajieeaagreatdoor", sum := "8b01d9c2d980de4c9825022486fc226472fe28416b12c5abdfa3a919c7409205", func := "privhouse/privhouselaw18.RelRows", spec := "relRows", inPlace := ["internal/bytealg.IndexByteString", "internal/bytealg.IndexString"], unfollowed := true, recurses := true, named := ["privhouse/schema.reserved", "internal/bytealg.MaxLen", "unicode/utf8.first", "unicode/utf8.acceptRanges", "strconv.ErrSyntax", "strconv.ErrRange", "internal/strconv.uint64pow10", "math/bits.deBruijn32tab", "math/bits.deBruijn64tab"], plainKeys := false, apart := false, laid := [("math/bits.deBruijn32tab", laid_math_bits_deBruijn32tab), ("math/bits.deBruijn64tab", laid_math_bits_deBruijn64tab), ("internal/strconv.uint64pow10", laid_internal_strconv_uint64pow10), ("unicode/utf8.acceptRanges", laid_unicode_utf8_acceptRanges), ("strconv.ErrRange", laid_strconv_ErrRange), ("strconv.ErrSyntax", laid_strconv_ErrSyntax), ("privhouse/schema.reserved", laid_privhouse_schema_reserved), ("unicode/utf8.first", laid_unicode_utf8_first)], narrowed := true }
def RelRowsUptoSaid : Prop := relRowsUptoRow.holds Tryz.pinned (OpenSpec.upto relRowsSpec)

/-- 'privhouselaw18.RelAdds', WHERE WHAT IT READS IS OF BULK AT MOST 1048576: true; the input reads as it did. -/
def relAddsUptoRow : OpenClaim := { program := "ytajaampgajieeaagreatdoor", sum := "8b01d9c2d980de4c9825022486fc226472fe28416b12c5abdfa3a919c7409205", func := "privhouse/privhouselaw18.RelAdds", spec := "relAdds", inPlace := ["internal/bytealg.IndexByteString", "internal/bytealg.IndexString"], unfollowed := true, recurses := true, named := ["privhouse/schema.reserved", "internal/bytealg.MaxLen", "unicode/utf8.first", "unicode/utf8.acceptRanges", "strconv.ErrSyntax", "strconv.ErrRange", "internal/strconv.uint64pow10", "math/bits.deBruijn32tab", "math/bits.deBruijn64tab"], plainKeys := false, apart := false, laid := [("math/bits.deBruijn32tab", laid_math_bits_deBruijn32tab), ("math/bits.deBruijn64tab", laid_math_bits_deBruijn64tab), ("internal/strconv.uint64pow10", laid_internal_strconv_uint64pow10), ("unicode/utf8.acceptRanges", laid_unicode_utf8_acceptRanges), ("strconv.ErrRange", laid_strconv_ErrRange), ("strconv.ErrSyntax", laid_strconv_ErrSyntax), ("privhouse/schema.reserved", laid_privhouse_schema_reserved), ("unicode/utf8.first", laid_unicode_utf8_first)], narrowed := true }
def RelAddsUptoSaid : Prop := relAddsUptoRow.holds Tryz.pinned (OpenSpec.upto relAddsSpec)

/-- 'privhouselaw18.RelOwners', WHERE WHAT IT READS IS OF BULK AT MOST 1048576: true; the input reads as it did. -/
def relOwnersUptoRow : OpenClaim := { program := "ytajaampgajieeaagreatdoor", sum := "8b01d9c2d980de4c9825022486fc226472fe28416b12c5abdfa3a919c7409205", func := "privhouse/privhouselaw18.RelOwners", spec := "relOwners", inPlace := ["internal/bytealg.IndexByteString", "internal/bytealg.IndexString"], unfollowed := true, recurses := true, named := ["privhouse/schema.reserved", "internal/bytealg.MaxLen", "unicode/utf8.first", "unicode/utf8.acceptRanges", "strconv.ErrSyntax", "strconv.ErrRange", "internal/strconv.uint64pow10", "math/bits.deBruijn32tab", "math/bits.deBruijn64tab"], plainKeys := false, apart := false, laid := [("math/bits.deBruijn32tab", laid_math_bits_deBruijn32tab), ("math/bits.deBruijn64tab", laid_math_bits_deBruijn64tab), ("internal/strconv.uint64pow10", laid_internal_strconv_uint64pow10), ("unicode/utf8.acceptRanges", laid_unicode_utf8_acceptRanges), ("strconv.ErrRange", laid_strconv_ErrRange), ("strconv.ErrSyntax", laid_strconv_ErrSyntax), ("privhouse/schema.reserved", laid_privhouse_schema_reserved), ("unicode/utf8.first", laid_unicode_utf8_first)], narrowed := true }
def RelOwnersUptoSaid : Prop := relOwnersUptoRow.holds Tryz.pinned (OpenSpec.upto relOwnersSpec)

/-- 'privhouselaw19.SensTrees', WHERE WHAT IT READS IS OF BULK AT MOST 1048576: true; the input reads as it did. -/
def sensTreesUptoRow : OpenClaim := { program := "ytajaampgajieeaagreatdoor", sum := "8b01d9c2d980de4c9825022486fc226472fe28416b12c5abdfa3a919c7409205", func := "privhouse/privhouselaw19.SensTrees", spec := "sensTrees", inPlace := ["internal/bytealg.IndexByteString", "internal/bytealg.IndexString"], unfollowed := true, recurses := true, named := ["privhouse/schema.reserved", "internal/bytealg.MaxLen", "unicode/utf8.first", "unicode/utf8.acceptRanges", "strconv.ErrSyntax", "strconv.ErrRange", "internal/strconv.uint64pow10", "math/bits.deBruijn32tab", "math/bits.deBruijn64tab"], plainKeys := false, apart := false, laid := [("math/bits.deBruijn32tab", laid_math_bits_deBruijn32tab), ("math/bits.deBruijn64tab", laid_math_bits_deBruijn64tab), ("internal/strconv.uint64pow10", laid_internal_strconv_uint64pow10), ("unicode/utf8.acceptRanges", laid_unicode_utf8_acceptRanges), ("strconv.ErrRange", laid_strconv_ErrRange), ("strconv.ErrSyntax", laid_strconv_ErrSyntax), ("privhouse/schema.reserved", laid_privhouse_schema_reserved), ("unicode/utf8.first", laid_unicode_utf8_first)], narrowed := true }
def SensTreesUptoSaid : Prop := sensTreesUptoRow.holds Tryz.pinned (OpenSpec.upto sensTreesSpec)

end Rows
end Go.Proofs.YtajaampgajieeaaGreatDoor
