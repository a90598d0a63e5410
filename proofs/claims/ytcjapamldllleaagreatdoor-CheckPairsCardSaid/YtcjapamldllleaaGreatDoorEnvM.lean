/- Proved here: the examples by runs, and the setting of the laws that draw. Conditions: those of each theorem; no statement of the seat is proved in this text. -/
import Derived.Test.YtcjapamldllleaaGreatDoorEnvC
namespace Go.Proofs.YtcjapamldllleaaGreatDoor
open Go.Ab
def pureK : List Nat := [5,6,7,8,21,22,26,27,35,36,37,38,42,60,61,62,68,72,76,84,89,103,106,117,118,119,120,121,139,140,9,10,13,14,15,16,17,18,19,20,32,33,56,57,66,67,69,70,91,92,93,95,96,100,101,102,107,108,109,110,112,113,114,116,122,123,124,125,131,136,138,141,143]
noncomputable def envK : Env := { P := Tryz.prog, pure := fun f => memN f pureK, mutb := fun f _ => memN f mutL, gl := glV, hook := hook0, rowB := true }
set_option maxRecDepth 1000000
theorem envK_ok : envK.Ok := ⟨env0_ok.mixed, env0_ok.glc, env0_ok.hook⟩
end Go.Proofs.YtcjapamldllleaaGreatDoor
namespace Go.Proofs.YtcjapamldllleaaGreatDoor.r9
open Go.Ab
set_option linter.unusedVariables false
set_option maxRecDepth 100000
def a0 : V := (.agg [(asciiV "colour"), (.int .i64 0), (.int .i64 1), (.row [(asciiV "red"), (asciiV "green")] 2 .unk)])
def a1 : V := (.tup [a0, (.bool true)])
def a2 : V := (.row [(.int .i64 2), (.int .i64 0), (asciiV "age"), (.int .i64 1), (.int .i64 1), (asciiV ""), (.int .i64 11), (.int .i64 0), (asciiV "")] 3 .full)
def a3 : V := (.row [(.int .i64 2), (.int .i64 0), (asciiV "age"), (.int .i64 3), (.int .i64 0), (asciiV "red"), (.int .i64 9), (.int .i64 0), (asciiV "")] 3 .unk)
def a4 : V := (.row [(.int .i64 2), (.int .i64 0), (asciiV "colour"), (.int .i64 3), (.int .i64 0), (asciiV "red"), (.int .i64 9), (.int .i64 0), (asciiV "")] 3 .unk)
def a5 : V := (.row [(.int .i64 2), (.int .i64 0), (asciiV "colour"), (.int .i64 3), (.int .i64 0), (asciiV "blue"), (.int .i64 9), (.int .i64 0), (asciiV "")] 3 .unk)
def a6 : V := (.row [(asciiV "age"), (.int .i64 0), (.int .i64 120), .nilsl, (asciiV "colour"), (.int .i64 0), (.int .i64 1), (.row [(asciiV "red"), (asciiV "green")] 2 .unk)] 2 .unk)
def a7 : V := (.row [(asciiV "place"), (.int .i64 0), (.int .i64 9), .nilsl, (asciiV "colour"), (.int .i64 0), (.int .i64 1), (.row [(asciiV "red"), (asciiV "green")] 2 .unk)] 2 .unk)
def a8 : V := (.agg [(asciiV ""), (.bool false), (.int .i64 0), a6])
def a9 : V := (.agg [(.int .i64 1), .nilsl, (.int .i64 0), (.int .i64 0), (.int .i64 0), (.int .i64 0), (asciiV ""), (.int .i64 0), .nilsl, (.int .i64 0), (.bool false), (asciiV "places"), (.int .i64 0), (asciiV ""), (asciiV ""), (asciiV ""), (.int .i64 0), .nilsl, (asciiV "2"), (.int .i64 8)])
def a10 : V := (.agg [(.int .i64 1), .nilsl, (.int .i64 0), (.int .i64 0), (.int .i64 0), (.int .i64 0), (asciiV ""), (.int .i64 0), .nilsl, (.int .i64 0), (.bool false), (asciiV "places"), (.int .i64 2), (asciiV ""), (asciiV ""), (asciiV ""), (.int .i64 0), .nilsl, (asciiV "2"), (.int .i64 8)])
def a11 : V := (.agg [(.int .i64 1), .nilsl, (.int .i64 0), (.int .i64 0), (.int .i64 0), (.int .i64 0), (asciiV ""), (.int .i64 0), .nilsl, (.int .i64 0), (.bool false), (asciiV "people"), (.int .i64 0), (asciiV ""), (asciiV ""), (asciiV ""), (.int .i64 0), .nilsl, (asciiV "1"), (.int .i64 8)])
def a12 : V := (.agg [(.int .i64 1), .nilsl, (.int .i64 0), (.int .i64 0), (.int .i64 0), (.int .i64 0), (asciiV ""), (.int .i64 0), .nilsl, (.int .i64 0), (.bool false), (asciiV "animals"), (.int .i64 0), (asciiV ""), (asciiV ""), (asciiV ""), (.int .i64 0), .nilsl, (asciiV "2"), (.int .i64 8)])
def a13 : V := (.agg [(.int .i64 1), .nilsl, (.int .i64 0), (.int .i64 0), (.int .i64 0), (.int .i64 0), (asciiV ""), (.int .i64 0), .nilsl, (.int .i64 0), (.bool false), (asciiV "people"), (.int .i64 0), (asciiV ""), (asciiV ""), (asciiV ""), (.int .i64 0), .nilsl, (asciiV "2"), (.int .i64 257)])
def a14 : V := (.agg [(.int .i64 3), .nilsl, (.int .i64 0), (.int .i64 0), (.int .i64 0), (.int .i64 0), (asciiV "age"), (.int .i64 0), .nilsl, (.int .i64 0), (.bool false), (asciiV "people"), (.int .i64 0), (asciiV ""), (asciiV ""), (asciiV ""), (.int .i64 0), .nilsl, (asciiV "2"), (.int .i64 8)])
def a15 : V := (.agg [(.int .i64 1), .nilsl, (.int .i64 0), (.int .i64 0), (.int .i64 0), (.int .i64 0), (asciiV ""), (.int .i64 0), .nilsl, (.int .i64 0), (.bool false), (asciiV "people"), (.int .i64 0), (asciiV ""), (asciiV ""), (asciiV ""), (.int .i64 0), .nilsl, (asciiV "1000001"), (.int .i64 8)])
def a16 : V := (.agg [(.int .i64 1), .nilsl, (.int .i64 0), (.int .i64 0), (.int .i64 0), (.int .i64 0), (asciiV ""), (.int .i64 0), .nilsl, (.int .i64 0), (.bool false), (asciiV "places"), (.int .i64 0), (asciiV "people"), (asciiV "colour"), (asciiV "colour"), (.int .i64 1), .nilsl, (asciiV "2"), (.int .i64 8)])
def a17 : V := (.agg [(.int .i64 3), .nilsl, (.int .i64 0), (.int .i64 0), (.int .i64 0), (.int .i64 0), (asciiV "colour"), (.int .i64 0), .nilsl, (.int .i64 0), (.bool false), (asciiV "people"), (.int .i64 0), (asciiV "places"), (asciiV "age"), (asciiV "colour"), (.int .i64 2), .nilsl, (asciiV "2"), (.int .i64 8)])
def a18 : V := (.agg [(.int .i64 3), .nilsl, (.int .i64 0), (.int .i64 0), (.int .i64 0), (.int .i64 0), (asciiV "colour"), (.int .i64 0), .nilsl, (.int .i64 0), (.bool false), (asciiV "people"), (.int .i64 0), (asciiV "places"), (asciiV "colour"), (asciiV "colour"), (.int .i64 2), .nilsl, (asciiV "2"), (.int .i64 8)])
def a19 : V := (.row [(asciiV "age"), (.int .i64 0), (.int .i64 120), .nilsl, (asciiV "colour"), (.int .i64 0), (.int .i64 1), (.row [(asciiV "red"), (asciiV "green")] 2 .unk), (asciiV "place"), (.int .i64 0), (.int .i64 9), .nilsl, (asciiV "colour"), (.int .i64 0), (.int .i64 1), (.row [(asciiV "red"), (asciiV "green")] 2 .unk)] 4 .unk)
def a20 : V := (.agg [(.int .i64 10), .nilsl, (.int .i64 0), (.int .i64 0), (.int .i64 0), (.int .i64 0), (asciiV "colour"), (.int .i64 0), (.row [(.int .i64 0), (.int .i64 2)] 1 .full), (.int .i64 2), (.bool false), (asciiV "people"), (.int .i64 0), (asciiV ""), (asciiV ""), (asciiV ""), (.int .i64 0), .nilsl, (asciiV "2"), (.int .i64 8)])
def a21 : V := (.agg [(.int .i64 2), (.row [(.int .i64 2), (.int .i64 0), (asciiV "age")] 1 .full), (.int .i64 5), (.int .i64 4), (.int .i64 0), (.int .i64 0), (asciiV ""), (.int .i64 0), .nilsl, (.int .i64 0), (.bool false), (asciiV "people"), (.int .i64 0), (asciiV ""), (asciiV ""), (asciiV ""), (.int .i64 0), .nilsl, (asciiV "2"), (.int .i64 8)])
def a22 : V := (.agg [(.int .i64 5), (.row [(.int .i64 2), (.int .i64 0), (asciiV "age")] 1 .full), (.int .i64 0), (.int .i64 64), (.int .i64 1), (.int .i64 2), (asciiV ""), (.int .i64 0), .nilsl, (.int .i64 0), (.bool false), (asciiV "people"), (.int .i64 0), (asciiV ""), (asciiV ""), (asciiV ""), (.int .i64 0), .nilsl, (asciiV "2"), (.int .i64 8)])
def a23 : V := (.agg [(.int .i64 1), .nilsl, (.int .i64 0), (.int .i64 0), (.int .i64 0), (.int .i64 0), (asciiV ""), (.int .i64 0), .nilsl, (.int .i64 0), (.bool false), (asciiV "people"), (.int .i64 0), (asciiV ""), (asciiV ""), (asciiV ""), (.int .i64 0), a4, (asciiV "2"), (.int .i64 8)])
def a24 : V := (.agg [(.int .i64 1), .nilsl, (.int .i64 0), (.int .i64 0), (.int .i64 0), (.int .i64 0), (asciiV ""), (.int .i64 0), .nilsl, (.int .i64 0), (.bool false), (asciiV "people"), (.int .i64 0), (asciiV ""), (asciiV ""), (asciiV ""), (.int .i64 0), a5, (asciiV "2"), (.int .i64 8)])
def a25 : V := (.row [(asciiV "people"), (.bool false), (.int .i64 3), a6, (asciiV "places"), (.bool true), (.int .i64 0), a7] 2 .unk)
def a26 : V := (.row [(asciiV "above"), (asciiV "and"), (asciiV "batch"), (asciiV "between"), (asciiV "bits"), (asciiV "by"), (asciiV "consistent"), (asciiV "count"), (asciiV "else"), (asciiV "factor"), (asciiV "from"), (asciiV "histogram"), (asciiV "identity"), (asciiV "if"), (asciiV "join"), (asciiV "keep"), (asciiV "late"), (asciiV "limit"), (asciiV "mode"), (asciiV "none"), (asciiV "not"), (asciiV "of"), (asciiV "on"), (asciiV "or"), (asciiV "peak"), (asciiV "prefix"), (asciiV "quantile"), (asciiV "running"), (asciiV "sum"), (asciiV "then"), (asciiV "total"), (asciiV "tree"), (asciiV "using"), (asciiV "where"), (asciiV "with")] 35 .full)
def t0 : RTab := [(16, [(.int .i64 1), (asciiV "places")], a9),
  (16, [(.int .i64 2), (asciiV "people")], (.agg [(.int .i64 2), .nilsl, (.int .i64 0), (.int .i64 0), (.int .i64 0), (.int .i64 0), (asciiV ""), (.int .i64 0), .nilsl, (.int .i64 0), (.bool false), (asciiV "people"), (.int .i64 0), (asciiV ""), (asciiV ""), (asciiV ""), (.int .i64 0), .nilsl, (asciiV "2"), (.int .i64 8)])),
  (16, [(.int .i64 1), (asciiV "animals")], a12),
  (20, [], a25),
  (57, [(.int .i64 (-1))], (.tup [(.int .i64 0), (.bool false)])),
  (139, [(asciiV "limit")], (.bool false)),
  (139, [(asciiV "quantile")], (.bool false)),
  (139, [(asciiV "on")], (.bool false)),
  (139, [(asciiV "peak")], (.bool false)),
  (139, [(asciiV "prefix")], (.bool false)),
  (118, [(asciiV "prefix")], (.bool false)),
  (139, [(asciiV "else")], (.bool false)),
  (139, [(asciiV "bits")], (.bool false)),
  (139, [(asciiV "batch")], (.bool false)),
  (139, [(asciiV "and")], (.bool false)),
  (139, [(asciiV "above")], (.bool false)),
  (118, [(asciiV "and")], (.bool false)),
  (139, [(asciiV "consistent")], (.bool false)),
  (139, [(asciiV "by")], (.bool false)),
  (118, [(asciiV "consistent")], (.bool false)),
  (139, [(asciiV "tree")], (.bool false)),
  (139, [(asciiV "then")], (.bool false)),
  (139, [(asciiV "sum")], (.bool false)),
  (139, [(asciiV "running")], (.bool false)),
  (118, [(asciiV "running")], (.bool false)),
  (139, [(asciiV "if")], (.bool false)),
  (139, [(asciiV "histogram")], (.bool false)),
  (139, [(asciiV "from")], (.bool false)),
  (118, [(asciiV "histogram")], (.bool false)),
  (121, [(.row [(asciiV "red"), (asciiV "green")] 2 .unk)], (.bool false)),
  (57, [(.int .i64 1)], (.tup [(.int .i64 1), (.bool true)])),
  (57, [(.int .i64 0)], (.tup [(.int .i64 0), (.bool true)])),
  (21, [], (.agg [.nilsl, (.int .i64 0), .nilsl, (.int .i64 0), .nilsl, (.int .i64 0), .nilsl, (.int .i64 0), (.row [(.int .i64 0), (.int .i64 0)] 2 .unk), (.int .i64 0), (.row [(.int .i64 0), (.int .i64 0)] 2 .unk), (.int .i64 0), (.row [(.int .i64 0), (.int .i64 0)] 2 .unk), (.int .i64 0), (.row [(.int .i64 0)] 1 .unk), (.int .i64 0), (.row [(.int .i64 1), (.int .i64 0), (.int .i64 0)] 3 .unk), (.int .i64 0), (.row [(.int .i64 0), (.int .i64 0)] 2 .unk), (.int .i64 1), (.row [(.int .i64 0), (.int .i64 0)] 2 .unk), (.int .i64 1), (.row [(.int .i64 0), (.int .i64 0)] 2 .unk), (.int .i64 1), (.row [(.int .i64 0), (.int .i64 0)] 2 .unk), (.int .i64 1), (.row [(.int .i64 0), (.int .i64 0)] 2 .unk), (.int .i64 1), (.row [(.int .i64 0), (.int .i64 0)] 2 .unk), (.int .i64 1), (.row [(.int .i64 1), (.int .i64 1)] 2 .unk), (.int .i64 1), (.row [(.int .i64 1), (.int .i64 1)] 2 .unk), (.int .i64 1), (.row [(.int .i64 1)] 1 .unk), (.int .i64 1)])),
  (67, [(.int .i64 5)], (.bool false)),
  (67, [(.int .i64 4)], (.bool false)),
  (16, [(.int .i64 3), (asciiV "people")], (.agg [(.int .i64 3), .nilsl, (.int .i64 0), (.int .i64 0), (.int .i64 0), (.int .i64 0), (asciiV ""), (.int .i64 0), .nilsl, (.int .i64 0), (.bool false), (asciiV "people"), (.int .i64 0), (asciiV ""), (asciiV ""), (asciiV ""), (.int .i64 0), .nilsl, (asciiV "2"), (.int .i64 8)])),
  (66, [(.row [(asciiV "red"), (asciiV "green")] 2 .unk), (.row [(asciiV "red"), (asciiV "green")] 2 .unk)], (.bool true)),
  (141, [(asciiV "2"), (.int .u8 47)], (.int .i64 (-1))),
  (123, [(asciiV "2"), (asciiV "-")], (.tup [(asciiV "2"), (.bool false)])),
  (109, [(asciiV "2"), (asciiV "0123456789")], (asciiV "")),
  (131, [(asciiV "2"), (.int .i64 10), (.int .i64 64)], (.tup [(.int .u64 2), .nilif])),
  (131, [(asciiV "1"), (.int .i64 10), (.int .i64 64)], (.tup [(.int .u64 1), .nilif])),
  (141, [(asciiV "1"), (.int .u8 47)], (.int .i64 (-1))),
  (123, [(asciiV "1"), (asciiV "-")], (.tup [(asciiV "1"), (.bool false)])),
  (109, [(asciiV "1"), (asciiV "0123456789")], (asciiV "")),
  (113, [(.row [(.int .u64 2)] 1 .unk)], (.bool false)),
  (113, [(.row [(.int .u64 1)] 1 .unk)], (.bool false)),
  (101, [(.row [(.int .u64 2)] 1 .unk), (.row [(.int .u64 1)] 1 .unk)], (.row [(.int .u64 2), (.int .u64 0)] 1 .unk)),
  (101, [(.row [(.int .u64 1)] 1 .unk), (.row [(.int .u64 1)] 1 .unk)], (.row [(.int .u64 1), (.int .u64 0)] 1 .unk)),
  (138, [(.int .u64 2)], (.bool false)),
  (138, [(.int .u64 1)], (.bool false)),
  (141, [(asciiV "1000000"), (.int .u8 47)], (.int .i64 (-1))),
  (123, [(asciiV "1000000"), (asciiV "-")], (.tup [(asciiV "1000000"), (.bool false)])),
  (109, [(asciiV "1000000"), (asciiV "0123456789")], (asciiV "")),
  (131, [(asciiV "1000000"), (.int .i64 10), (.int .i64 64)], (.tup [(.int .u64 1000000), .nilif])),
  (113, [(.row [(.int .u64 1000000)] 1 .unk)], (.bool false)),
  (101, [(.row [(.int .u64 1000000)] 1 .unk), (.row [(.int .u64 1)] 1 .unk)], (.row [(.int .u64 1000000), (.int .u64 0)] 1 .unk)),
  (138, [(.int .u64 1000000)], (.bool false)),
  (66, [.nilsl, (.row [(asciiV "red"), (asciiV "green")] 2 .unk)], (.bool false)),
  (16, [(.int .i64 5), (asciiV "people")], (.agg [(.int .i64 5), .nilsl, (.int .i64 0), (.int .i64 0), (.int .i64 0), (.int .i64 0), (asciiV ""), (.int .i64 0), .nilsl, (.int .i64 0), (.bool false), (asciiV "people"), (.int .i64 0), (asciiV ""), (asciiV ""), (asciiV ""), (.int .i64 0), .nilsl, (asciiV "2"), (.int .i64 8)])),
  (16, [(.int .i64 10), (asciiV "people")], (.agg [(.int .i64 10), .nilsl, (.int .i64 0), (.int .i64 0), (.int .i64 0), (.int .i64 0), (asciiV ""), (.int .i64 0), .nilsl, (.int .i64 0), (.bool false), (asciiV "people"), (.int .i64 0), (asciiV ""), (asciiV ""), (asciiV ""), (.int .i64 0), .nilsl, (asciiV "2"), (.int .i64 8)])),
  (67, [(.int .i64 0)], (.bool false)),
  (67, [(.int .i64 64)], (.bool false)),
  (16, [(.int .i64 1), (asciiV "people")], (.agg [(.int .i64 1), .nilsl, (.int .i64 0), (.int .i64 0), (.int .i64 0), (.int .i64 0), (asciiV ""), (.int .i64 0), .nilsl, (.int .i64 0), (.bool false), (asciiV "people"), (.int .i64 0), (asciiV ""), (asciiV ""), (asciiV ""), (.int .i64 0), .nilsl, (asciiV "2"), (.int .i64 8)])),
  (102, [(.row [(.int .u64 1), (.int .u64 0)] 1 .unk), (.row [(.int .u64 1), (.int .u64 0)] 1 .unk)], (.int .i64 0)),
  (141, [(asciiV "1000001"), (.int .u8 47)], (.int .i64 (-1))),
  (123, [(asciiV "1000001"), (asciiV "-")], (.tup [(asciiV "1000001"), (.bool false)])),
  (109, [(asciiV "1000001"), (asciiV "0123456789")], (asciiV "")),
  (131, [(asciiV "1000001"), (.int .i64 10), (.int .i64 64)], (.tup [(.int .u64 1000001), .nilif])),
  (113, [(.row [(.int .u64 1000001)] 1 .unk)], (.bool false)),
  (101, [(.row [(.int .u64 1000001)] 1 .unk), (.row [(.int .u64 1)] 1 .unk)], (.row [(.int .u64 1000001), (.int .u64 0)] 1 .unk)),
  (138, [(.int .u64 1000001)], (.bool false)),
  (22, [a2, (.int .i64 1), a6], (.int .i64 0)),
  (22, [a2, (.int .i64 2), a6], (.int .i64 0)),
  (22, [(.row [(.int .i64 4), (.int .i64 0), (asciiV "")] 1 .full), (.int .i64 0), a6], (.int .i64 0)),
  (17, [(asciiV "age"), (asciiV "red")], a3),
  (17, [(asciiV "colour"), (asciiV "red")], a4),
  (17, [(asciiV "colour"), (asciiV "blue")], a5),
  (72, [(.row [(asciiV "red"), (asciiV "green")] 2 .unk), (asciiV "red")], (.int .i64 0)),
  (22, [a4, (.int .i64 2), a6], (.int .i64 0)),
  (72, [(.row [(asciiV "red"), (asciiV "green")] 2 .unk), (asciiV "blue")], (.int .i64 (-1)))]
theorem t0_ok : ∀ p ∈ t0, RowOK envK p.1 p.2.1 p.2.2 := rows_of_Q envK_ok (S0 := []) rowsNil (k := 1000) (by kernel_rfl)
def s0 : RTab := t0
theorem s0_ok : ∀ p ∈ s0, RowOK envK p.1 p.2.1 p.2.2 := t0_ok
def t1 : RTab := [(117, [(asciiV "limit"), (asciiV "people")], (.bool true)),
  (117, [(asciiV "quantile"), (asciiV "people")], (.bool false)),
  (117, [(asciiV "on"), (asciiV "people")], (.bool true)),
  (117, [(asciiV "peak"), (asciiV "people")], (.bool true)),
  (117, [(asciiV "prefix"), (asciiV "people")], (.bool false)),
  (117, [(asciiV "limit"), (asciiV "age")], (.bool false)),
  (117, [(asciiV "else"), (asciiV "age")], (.bool false)),
  (117, [(asciiV "bits"), (asciiV "age")], (.bool false)),
  (117, [(asciiV "batch"), (asciiV "age")], (.bool false)),
  (117, [(asciiV "and"), (asciiV "age")], (.bool false)),
  (117, [(asciiV "above"), (asciiV "age")], (.bool true)),
  (117, [(asciiV "limit"), (asciiV "colour")], (.bool false)),
  (117, [(asciiV "else"), (asciiV "colour")], (.bool false)),
  (117, [(asciiV "bits"), (asciiV "colour")], (.bool true)),
  (117, [(asciiV "consistent"), (asciiV "colour")], (.bool false)),
  (117, [(asciiV "by"), (asciiV "colour")], (.bool true)),
  (117, [(asciiV "limit"), (asciiV "red")], (.bool true)),
  (117, [(asciiV "quantile"), (asciiV "red")], (.bool true)),
  (117, [(asciiV "tree"), (asciiV "red")], (.bool false)),
  (117, [(asciiV "then"), (asciiV "red")], (.bool false)),
  (117, [(asciiV "sum"), (asciiV "red")], (.bool false)),
  (117, [(asciiV "running"), (asciiV "red")], (.bool false)),
  (117, [(asciiV "limit"), (asciiV "green")], (.bool false)),
  (117, [(asciiV "else"), (asciiV "green")], (.bool true)),
  (117, [(asciiV "if"), (asciiV "green")], (.bool false)),
  (117, [(asciiV "histogram"), (asciiV "green")], (.bool false)),
  (117, [(asciiV "from"), (asciiV "green")], (.bool true)),
  (117, [(asciiV "limit"), (asciiV "places")], (.bool true)),
  (117, [(asciiV "quantile"), (asciiV "places")], (.bool false)),
  (117, [(asciiV "on"), (asciiV "places")], (.bool true)),
  (117, [(asciiV "peak"), (asciiV "places")], (.bool true)),
  (117, [(asciiV "prefix"), (asciiV "places")], (.bool false)),
  (117, [(asciiV "limit"), (asciiV "place")], (.bool true)),
  (117, [(asciiV "quantile"), (asciiV "place")], (.bool false)),
  (117, [(asciiV "on"), (asciiV "place")], (.bool true)),
  (117, [(asciiV "peak"), (asciiV "place")], (.bool true)),
  (117, [(asciiV "prefix"), (asciiV "place")], (.bool false)),
  (61, [a8, (asciiV "age")], (.tup [(.int .i64 0), (.bool true)])),
  (61, [a8, (asciiV "colour")], (.tup [(.int .i64 1), (.bool true)])),
  (61, [(.agg [(asciiV ""), (.bool false), (.int .i64 0), a7]), (asciiV "colour")], (.tup [(.int .i64 1), (.bool true)])),
  (61, [(.agg [(asciiV ""), (.bool false), (.int .i64 0), a19]), (asciiV "colour")], (.tup [(.int .i64 1), (.bool true)])),
  (122, [(asciiV "2"), (asciiV "/")], (.int .i64 (-1))),
  (108, [(asciiV "2"), (asciiV "-")], (.tup [(asciiV "2"), (.bool false)])),
  (93, [(asciiV "2")], (.bool true)),
  (110, [(asciiV "2"), (.int .i64 10), (.int .i64 64)], (.tup [(.int .u64 2), .nilif])),
  (110, [(asciiV "1"), (.int .i64 10), (.int .i64 64)], (.tup [(.int .u64 1), .nilif])),
  (122, [(asciiV "1"), (asciiV "/")], (.int .i64 (-1))),
  (108, [(asciiV "1"), (asciiV "-")], (.tup [(asciiV "1"), (.bool false)])),
  (93, [(asciiV "1")], (.bool true)),
  (100, [(.agg [(.bool false), (.row [(.int .u64 2)] 1 .unk), (.row [(.int .u64 1)] 1 .unk)])], (.int .i64 1)),
  (100, [(.agg [(.bool false), (.row [(.int .u64 1)] 1 .unk), (.row [(.int .u64 1)] 1 .unk)])], (.int .i64 1)),
  (116, [(.int .u64 2), (.int .u64 1)], (.int .i64 1)),
  (122, [(asciiV "1000000"), (asciiV "/")], (.int .i64 (-1))),
  (108, [(asciiV "1000000"), (asciiV "-")], (.tup [(asciiV "1000000"), (.bool false)])),
  (93, [(asciiV "1000000")], (.bool true)),
  (110, [(asciiV "1000000"), (.int .i64 10), (.int .i64 64)], (.tup [(.int .u64 1000000), .nilif])),
  (100, [(.agg [(.bool false), (.row [(.int .u64 1000000)] 1 .unk), (.row [(.int .u64 1)] 1 .unk)])], (.int .i64 1)),
  (116, [(.int .u64 2), (.int .u64 1000000)], (.int .i64 (-1))),
  (116, [(.int .u64 1), (.int .u64 1000000)], (.int .i64 (-1))),
  (122, [(asciiV "1000001"), (asciiV "/")], (.int .i64 (-1))),
  (108, [(asciiV "1000001"), (asciiV "-")], (.tup [(asciiV "1000001"), (.bool false)])),
  (93, [(asciiV "1000001")], (.bool true)),
  (110, [(asciiV "1000001"), (.int .i64 10), (.int .i64 64)], (.tup [(.int .u64 1000001), .nilif])),
  (100, [(.agg [(.bool false), (.row [(.int .u64 1000001)] 1 .unk), (.row [(.int .u64 1)] 1 .unk)])], (.int .i64 1)),
  (116, [(.int .u64 1000001), (.int .u64 1)], (.int .i64 1)),
  (116, [(.int .u64 1000001), (.int .u64 1000000)], (.int .i64 1)),
  (7, [(.row [(.int .i64 4), (.int .i64 0), (asciiV "")] 1 .full), a6, (.bool false)], (.int .i64 10)),
  (60, [(.row [(asciiV "red"), (asciiV "green")] 2 .unk), (asciiV "red")], (.bool true)),
  (60, [(.row [(asciiV "red"), (asciiV "green")] 2 .unk), (asciiV "blue")], (.bool false))]
theorem t1_ok : ∀ p ∈ t1, RowOK envK p.1 p.2.1 p.2.2 := rows_of_Q envK_ok (S0 := s0) s0_ok (k := 1000) (by kernel_rfl)
def s1 : RTab := s0 ++ (t1)
theorem s1_ok : ∀ p ∈ s1, RowOK envK p.1 p.2.1 p.2.2 := rowsApp s0_ok (t1_ok)
def t2 : RTab := [(103, [a26, (asciiV "people")], (.tup [(.int .i64 25), (.bool false)])),
  (103, [a26, (asciiV "age")], (.tup [(.int .i64 1), (.bool false)])),
  (103, [a26, (asciiV "colour")], (.tup [(.int .i64 6), (.bool false)])),
  (103, [a26, (asciiV "red")], (.tup [(.int .i64 27), (.bool false)])),
  (103, [a26, (asciiV "green")], (.tup [(.int .i64 11), (.bool false)])),
  (103, [a26, (asciiV "places")], (.tup [(.int .i64 25), (.bool false)])),
  (103, [a26, (asciiV "place")], (.tup [(.int .i64 25), (.bool false)])),
  (36, [a6, (asciiV "age")], (.tup [(.agg [(asciiV "age"), (.int .i64 0), (.int .i64 120), .nilsl]), (.bool true)])),
  (36, [a6, (asciiV "colour")], a1),
  (36, [a7, (asciiV "colour")], a1),
  (36, [a19, (asciiV "colour")], a1),
  (107, [(asciiV "2"), (asciiV "/")], (.tup [(asciiV "2"), (asciiV ""), (.bool false)])),
  (92, [(asciiV "2")], (.tup [(.bool false), (asciiV "2"), (.bool true)])),
  (107, [(asciiV "1"), (asciiV "/")], (.tup [(asciiV "1"), (asciiV ""), (.bool false)])),
  (92, [(asciiV "1")], (.tup [(.bool false), (asciiV "1"), (.bool true)])),
  (102, [(.row [(.int .u64 2), (.int .u64 0)] 1 .unk), (.row [(.int .u64 1), (.int .u64 0)] 1 .unk)], (.int .i64 1)),
  (107, [(asciiV "1000000"), (asciiV "/")], (.tup [(asciiV "1000000"), (asciiV ""), (.bool false)])),
  (92, [(asciiV "1000000")], (.tup [(.bool false), (asciiV "1000000"), (.bool true)])),
  (102, [(.row [(.int .u64 2), (.int .u64 0)] 1 .unk), (.row [(.int .u64 1000000), (.int .u64 0)] 1 .unk)], (.int .i64 (-1))),
  (102, [(.row [(.int .u64 1), (.int .u64 0)] 1 .unk), (.row [(.int .u64 1000000), (.int .u64 0)] 1 .unk)], (.int .i64 (-1))),
  (107, [(asciiV "1000001"), (asciiV "/")], (.tup [(asciiV "1000001"), (asciiV ""), (.bool false)])),
  (92, [(asciiV "1000001")], (.tup [(.bool false), (asciiV "1000001"), (.bool true)])),
  (102, [(.row [(.int .u64 1000001), (.int .u64 0)] 1 .unk), (.row [(.int .u64 1), (.int .u64 0)] 1 .unk)], (.int .i64 1)),
  (102, [(.row [(.int .u64 1000001), (.int .u64 0)] 1 .unk), (.row [(.int .u64 1000000), (.int .u64 0)] 1 .unk)], (.int .i64 1))]
theorem t2_ok : ∀ p ∈ t2, RowOK envK p.1 p.2.1 p.2.2 := rows_of_Q envK_ok (S0 := s1) s1_ok (k := 1000) (by kernel_rfl)
def s2 : RTab := s1 ++ (t2)
theorem s2_ok : ∀ p ∈ s2, RowOK envK p.1 p.2.1 p.2.2 := rowsApp s1_ok (t2_ok)
def t3 : RTab := [(84, [(asciiV "people")], (.bool true)),
  (84, [(asciiV "age")], (.bool true)),
  (84, [(asciiV "colour")], (.bool true)),
  (84, [(asciiV "red")], (.bool true)),
  (84, [(asciiV "green")], (.bool true)),
  (84, [(asciiV "places")], (.bool true)),
  (84, [(asciiV "place")], (.bool true)),
  (22, [(.row [(.int .i64 2), (.int .i64 0), (asciiV "age")] 1 .full), (.int .i64 0), a6], (.int .i64 0)),
  (91, [(asciiV "2"), (asciiV "/")], (.tup [(asciiV "2"), (asciiV ""), (.bool false)])),
  (91, [(asciiV "1"), (asciiV "/")], (.tup [(asciiV "1"), (asciiV ""), (.bool false)])),
  (91, [(asciiV "1000000"), (asciiV "/")], (.tup [(asciiV "1000000"), (asciiV ""), (.bool false)])),
  (91, [(asciiV "1000001"), (asciiV "/")], (.tup [(asciiV "1000001"), (asciiV ""), (.bool false)])),
  (22, [a2, (.int .i64 0), a6], (.int .i64 0)),
  (22, [a3, (.int .i64 0), a6], (.int .i64 0)),
  (35, [a3, (.int .i64 1), a6], (.int .i64 10)),
  (22, [a4, (.int .i64 0), a6], (.int .i64 0)),
  (35, [a4, (.int .i64 1), a6], (.int .i64 0)),
  (22, [a5, (.int .i64 0), a6], (.int .i64 0)),
  (35, [a5, (.int .i64 1), a6], (.int .i64 7))]
theorem t3_ok : ∀ p ∈ t3, RowOK envK p.1 p.2.1 p.2.2 := rows_of_Q envK_ok (S0 := s2) s2_ok (k := 1000) (by kernel_rfl)
def s3 : RTab := s2 ++ (t3)
theorem s3_ok : ∀ p ∈ s3, RowOK envK p.1 p.2.1 p.2.2 := rowsApp s2_ok (t3_ok)
def t4 : RTab := [(89, [a6, (.int .i64 0)], (.int .i64 0)),
  (120, [(asciiV "red")], (.bool false)),
  (120, [(asciiV "green")], (.bool false)),
  (89, [a7, (.int .i64 0)], (.int .i64 0)),
  (7, [(.row [(.int .i64 2), (.int .i64 0), (asciiV "age")] 1 .full), a6, (.bool false)], (.int .i64 0)),
  (89, [(.row [(asciiV "age"), (.int .i64 0), (.int .i64 120), .nilsl] 1 .full), (.int .i64 0)], (.int .i64 0)),
  (69, [(asciiV "2")], (.int .i64 0)),
  (70, [(asciiV "2"), (asciiV "1")], (.tup [(.int .i64 1), (.int .i64 0)])),
  (70, [(asciiV "2"), (asciiV "1000000")], (.tup [(.int .i64 (-1)), (.int .i64 0)])),
  (69, [(asciiV "1")], (.int .i64 0)),
  (70, [(asciiV "1"), (asciiV "1")], (.tup [(.int .i64 0), (.int .i64 0)])),
  (70, [(asciiV "1"), (asciiV "1000000")], (.tup [(.int .i64 (-1)), (.int .i64 0)])),
  (69, [(asciiV "1000001")], (.int .i64 0)),
  (70, [(asciiV "1000001"), (asciiV "1")], (.tup [(.int .i64 1), (.int .i64 0)])),
  (70, [(asciiV "1000001"), (asciiV "1000000")], (.tup [(.int .i64 1), (.int .i64 0)])),
  (7, [a2, a6, (.bool false)], (.int .i64 10)),
  (7, [a2, a6, (.bool true)], (.int .i64 0)),
  (22, [a3, (.int .i64 1), a6], (.int .i64 10)),
  (22, [a4, (.int .i64 1), a6], (.int .i64 0)),
  (22, [a5, (.int .i64 1), a6], (.int .i64 7))]
theorem t4_ok : ∀ p ∈ t4, RowOK envK p.1 p.2.1 p.2.2 := rows_of_Q envK_ok (S0 := s3) s3_ok (k := 1000) (by kernel_rfl)
def s4 : RTab := s3 ++ (t4)
theorem s4_ok : ∀ p ∈ s4, RowOK envK p.1 p.2.1 p.2.2 := rowsApp s3_ok (t4_ok)
def t5 : RTab := [(140, [(.row [(asciiV "red"), (asciiV "green")] 2 .unk), (.func 120 [] [])], (.int .i64 (-1))),
  (76, [(.agg [(asciiV "age"), (.int .i64 0), (.int .i64 120), .nilsl])], (.bool true)),
  (7, [a3, a6, (.bool true)], (.int .i64 10)),
  (7, [a4, a6, (.bool true)], (.int .i64 0)),
  (7, [a5, a6, (.bool true)], (.int .i64 7))]
theorem t5_ok : ∀ p ∈ t5, RowOK envK p.1 p.2.1 p.2.2 := rows_of_Q envK_ok (S0 := s4) s4_ok (k := 1000) (by kernel_rfl)
def s5 : RTab := s4 ++ (t5)
theorem s5_ok : ∀ p ∈ s5, RowOK envK p.1 p.2.1 p.2.2 := rowsApp s4_ok (t5_ok)
def t6 : RTab := [(119, [(.row [(asciiV "red"), (asciiV "green")] 2 .unk), (.func 120 [] [])], (.bool false)),
  (68, [(.agg [(asciiV "age"), (.int .i64 0), (.int .i64 120), .nilsl])], (.int .i64 121))]
theorem t6_ok : ∀ p ∈ t6, RowOK envK p.1 p.2.1 p.2.2 := rows_of_Q envK_ok (S0 := s5) s5_ok (k := 1000) (by kernel_rfl)
def s6 : RTab := s5 ++ (t6)
theorem s6_ok : ∀ p ∈ s6, RowOK envK p.1 p.2.1 p.2.2 := rowsApp s5_ok (t6_ok)
def t7 : RTab := [(106, [a0], (.int .i64 0))]
theorem t7_ok : ∀ p ∈ t7, RowOK envK p.1 p.2.1 p.2.2 := rows_of_Q envK_ok (S0 := s6) s6_ok (k := 1000) (by kernel_rfl)
def s7 : RTab := s6 ++ (t7)
theorem s7_ok : ∀ p ∈ s7, RowOK envK p.1 p.2.1 p.2.2 := rowsApp s6_ok (t7_ok)
def t8 : RTab := [(89, [a6, (.int .i64 1)], (.int .i64 0)),
  (89, [a7, (.int .i64 1)], (.int .i64 0)),
  (89, [(.row [(asciiV "colour"), (.int .i64 0), (.int .i64 1), (.row [(asciiV "red"), (asciiV "green")] 2 .unk)] 1 .full), (.int .i64 0)], (.int .i64 0))]
theorem t8_ok : ∀ p ∈ t8, RowOK envK p.1 p.2.1 p.2.2 := rows_of_Q envK_ok (S0 := s7) s7_ok (k := 1000) (by kernel_rfl)
def s8 : RTab := s7 ++ (t8)
theorem s8_ok : ∀ p ∈ s8, RowOK envK p.1 p.2.1 p.2.2 := rowsApp s7_ok (t8_ok)
def t9 : RTab := [(56, [(.agg [(asciiV "people"), (.bool false), (.int .i64 3), a6])], (.tup [(.int .i64 0), (.int .i64 (-1))])),
  (56, [(.agg [(asciiV "places"), (.bool true), (.int .i64 0), a7])], (.tup [(.int .i64 0), (.int .i64 (-1))])),
  (76, [a0], (.bool true))]
theorem t9_ok : ∀ p ∈ t9, RowOK envK p.1 p.2.1 p.2.2 := rows_of_Q envK_ok (S0 := s8) s8_ok (k := 1000) (by kernel_rfl)
def s9 : RTab := s8 ++ (t9)
theorem s9_ok : ∀ p ∈ s9, RowOK envK p.1 p.2.1 p.2.2 := rowsApp s8_ok (t9_ok)
def t10 : RTab := [(33, [a25], (.tup [(.int .i64 0), (.int .i64 (-1)), (.int .i64 (-1))])),
  (68, [a0], (.int .i64 2))]
theorem t10_ok : ∀ p ∈ t10, RowOK envK p.1 p.2.1 p.2.2 := rows_of_Q envK_ok (S0 := s9) s9_ok (k := 1000) (by kernel_rfl)
def s10 : RTab := s9 ++ (t10)
theorem s10_ok : ∀ p ∈ s10, RowOK envK p.1 p.2.1 p.2.2 := rowsApp s9_ok (t10_ok)
def t11 : RTab := [(32, [a12, a25], (.tup [(.int .i64 7), (asciiV "table")])),
  (32, [a10, a25], (.tup [(.int .i64 10), (asciiV "keep")])),
  (32, [a21, a25], (.tup [(.int .i64 2), (asciiV "range")])),
  (32, [a14, a25], (.tup [(.int .i64 2), (asciiV "column")])),
  (32, [a18, a25], (.tup [(.int .i64 0), (asciiV "")])),
  (32, [a16, a25], (.tup [(.int .i64 10), (asciiV "join")]))]
theorem t11_ok : ∀ p ∈ t11, RowOK envK p.1 p.2.1 p.2.2 := rows_of_Q envK_ok (S0 := s10) s10_ok (k := 1000) (by kernel_rfl)
def t12 : RTab := [(32, [a17, a25], (.tup [(.int .i64 10), (asciiV "join")])),
  (32, [a22, a25], (.tup [(.int .i64 2), (asciiV "range")])),
  (32, [a20, a25], (.tup [(.int .i64 2), (asciiV "ranges")])),
  (32, [a11, a25], (.tup [(.int .i64 2), (asciiV "factor")])),
  (32, [a15, a25], (.tup [(.int .i64 2), (asciiV "factor")]))]
theorem t12_ok : ∀ p ∈ t12, RowOK envK p.1 p.2.1 p.2.2 := rows_of_Q envK_ok (S0 := s10) s10_ok (k := 1000) (by kernel_rfl)
def t13 : RTab := [(32, [a13, a25], (.tup [(.int .i64 2), (asciiV "bits")])),
  (32, [a23, a25], (.tup [(.int .i64 0), (asciiV "")])),
  (32, [a24, a25], (.tup [(.int .i64 7), (asciiV "where")])),
  (19, [a23, a25], (.bool true)),
  (19, [a9, a25], (.bool false))]
theorem t13_ok : ∀ p ∈ t13, RowOK envK p.1 p.2.1 p.2.2 := rows_of_Q envK_ok (S0 := s10) s10_ok (k := 1000) (by kernel_rfl)
def s11 : RTab := s10 ++ (t11 ++ (t12 ++ (t13)))
theorem s11_ok : ∀ p ∈ s11, RowOK envK p.1 p.2.1 p.2.2 := rowsApp s10_ok (rowsApp t11_ok (rowsApp t12_ok (t13_ok)))
def t14 : RTab := [(18, [a12, (.int .i64 7), (asciiV "table")], (.bool true)),
  (18, [a10, (.int .i64 10), (asciiV "keep")], (.bool true)),
  (18, [a21, (.int .i64 2), (asciiV "range")], (.bool true)),
  (18, [a14, (.int .i64 2), (asciiV "column")], (.bool true)),
  (18, [a18, (.int .i64 0), (asciiV "")], (.bool true)),
  (18, [a16, (.int .i64 10), (asciiV "join")], (.bool true)),
  (18, [a17, (.int .i64 10), (asciiV "join")], (.bool true)),
  (18, [a22, (.int .i64 2), (asciiV "range")], (.bool true)),
  (18, [a20, (.int .i64 2), (asciiV "ranges")], (.bool true)),
  (18, [a11, (.int .i64 2), (asciiV "factor")], (.bool true)),
  (18, [a15, (.int .i64 2), (asciiV "factor")], (.bool true)),
  (18, [a13, (.int .i64 2), (asciiV "bits")], (.bool true)),
  (18, [a23, (.int .i64 0), (asciiV "")], (.bool true)),
  (18, [a24, (.int .i64 7), (asciiV "where")], (.bool true))]
theorem t14_ok : ∀ p ∈ t14, RowOK envK p.1 p.2.1 p.2.2 := rows_of_Q envK_ok (S0 := s11) s11_ok (k := 1000) (by kernel_rfl)
def s12 : RTab := s11 ++ (t14)
theorem s12_ok : ∀ p ∈ s12, RowOK envK p.1 p.2.1 p.2.2 := rowsApp s11_ok (t14_ok)
def t15 : RTab := [(6, [], (.bool true))]
theorem t15_ok : ∀ p ∈ t15, RowOK envK p.1 p.2.1 p.2.2 := rows_of_Q envK_ok (S0 := s12) s12_ok (k := 1000) (by kernel_rfl)
def s13 : RTab := s12 ++ (t15)
theorem s13_ok : ∀ p ∈ s13, RowOK envK p.1 p.2.1 p.2.2 := rowsApp s12_ok (t15_ok)
def t16 : RTab := [(9, [], (.bool true))]
theorem t16_ok : ∀ p ∈ t16, RowOK envK p.1 p.2.1 p.2.2 := rows_of_Q envK_ok (S0 := s13) s13_ok (k := 1000) (by kernel_rfl)
theorem known_row : RowOK envK 9 [] (.bool true) := t16_ok (9, [], .bool true) (by simp [t16])
end Go.Proofs.YtcjapamldllleaaGreatDoor.r9
namespace Go.Proofs.YtcjapamldllleaaGreatDoor
open Go.Ab
set_option maxRecDepth 100000
open Classical in
noncomputable def hookC (f : FuncId) (args : List V) : Option V := if h : ∃ v, ∀ σ, callFn env (ev env) f args σ = some (v, σ) then some (Classical.choose h) else none
theorem hookC_eq {f : FuncId} {args : List V} {v : V} (h : ∀ σ, callFn env (ev env) f args σ = some (v, σ)) : hookC f args = some v := by
  unfold hookC
  have he : ∃ v, ∀ σ, callFn env (ev env) f args σ = some (v, σ) := ⟨v, h⟩
  rw [dif_pos he]
  have h1 := Classical.choose_spec he S.empty
  rw [h] at h1
  simp only [Option.some.injEq, Prod.mk.injEq, and_true] at h1
  rw [← h1]
def hookK : List V → Option V
  | [] => some (.bool true)
  | _ => none
namespace N
def pureN : List Nat := [42, 31, 63, 41, 40, 14]
def hookL : List Nat := [7]
def stabL (f r : Nat) : Bool := (f == 12 && r == 8) || (f == 12 && r == 9) || (f == 28 && r == 11) || (f == 39 && r == 7)
noncomputable def env : Env := { P := Tryz.prog, pure := fun f => memN f pureN, mutb := fun _ _ => false, gl := glV, hook := fun f => match Nat.beq f 9 with | true => some hookK | false => match memN f hookL with | true => some (hookC f) | false => none, rowB := true, stab := stabL }
theorem hook_ok : ∀ f g, env.hook f = some g → ∀ args v, g args = some v → ∀ Γ σ w xs, WRel Γ σ w → GOK env Γ → LRel Γ args xs → ∃ Γ' w' y, Moved Γ Γ' σ w w' ∧ VRel Γ' v y ∧ CallsV env.P f xs w y w' := by
  intro f g h
  simp only [env] at h
  split at h
  · rename_i hf
    have e := Nat.eq_of_beq_eq_true hf
    subst e
    simp only [Option.some.injEq] at h
    subst h
    intro args v hv
    unfold hookK at hv
    split at hv
    · simp only [Option.some.injEq] at hv
      subst hv
      exact r9.known_row
    · simp at hv
  · split at h
    · simp only [Option.some.injEq] at h
      subst h
      intro args v hv Γ σ w xs hw hg hx
      unfold hookC at hv
      split at hv
      · rename_i hh
        simp only [Option.some.injEq] at hv
        subst hv
        exact callFn_sound YtcjapamldllleaaGreatDoor.env_ok (fun t r h => ev_sound YtcjapamldllleaaGreatDoor.env_ok h) (Classical.choose_spec hh σ) hw hg hx
      · simp at hv
    · simp at h
theorem env_ok : env.Ok := ⟨by kernel_rfl, YtcjapamldllleaaGreatDoor.env_ok.glc, hook_ok⟩
theorem env_gl {W : World} {l : List (String × DataW Unit)} (h : laidMetH Tryz.prog l W) (hp : (l.all fun x => x.2.handleName?.isNone) = true) (m0 : ("privhouse/schema.reserved", Rows.laid_privhouse_schema_reserved) ∈ l)
    (m1 : ("internal/strconv.uint64pow10", Rows.laid_internal_strconv_uint64pow10) ∈ l) : GOK env (Ctx.top W) := YtcjapamldllleaaGreatDoor.env_gl h hp m0 m1
theorem call_of {f : FuncId} {args : List V} {v : V} (hf : env.hook f = some (hookC f)) (h : ∀ σ, callFn YtcjapamldllleaaGreatDoor.env (ev YtcjapamldllleaaGreatDoor.env) f args σ = some (v, σ)) (rec : Task → Option Res) (σ : S) : callFn env rec f args σ = some (v, σ) := by
  unfold callFn
  rw [hf]
  simp only [hookC_eq h, Option.map_some]
theorem hk7 : env.hook 7 = some (hookC 7) := rfl
theorem known_call (σ : S) : callFn env (ev env) 9 [] σ = some (.bool true, σ) := rfl
end N
end Go.Proofs.YtcjapamldllleaaGreatDoor
