/- Proved here: the examples by runs, and the setting of the laws that draw. Conditions: those of each theorem; no statement of the seat is proved in this text. -/
import Derived.Test.YtcjapamldllleaaDoorEnvS
namespace Go.Proofs.YtcjapamldllleaaDoor
open Go.Ab
def pureK : List Nat := [26,51,73,77,78,89,90,91,92,95,96,98,102,103,104,105,106,107,108,109,8,9,10,11,12,13,14,15,16,17,18,32,33,34,35,36,37,38,39,40,48,50,52,53,54,56,57,58,59,61,62,63,64,67,68,75,76,79,80,81,82,83,84,85,86,87,88,93,94,99,125,126,127,128,129,130,132,133,134,135,136,137,138,44,19,20,21,22,25,27,28,29,30,31,41,42,43,45,46,47,65,66]
def mutK : List Nat := [34, 38, 39, 40, 70]
noncomputable def env0 : Env := { P := Tryd.prog, pure := fun f => memN f pureK, mutb := fun f _ => memN f mutK, gl := glV, hook := fun _ => none, rowB := true }
set_option maxRecDepth 1000000
theorem env0_ok : env0.Ok := { mixed := by kernel_rfl, glc := fun g v h => by obtain ⟨_, rfl⟩ := gl_cases h; kernel_rfl, hook := fun f g h => by simp [env0] at h }
end Go.Proofs.YtcjapamldllleaaDoor
namespace Go.Proofs.YtcjapamldllleaaDoor.r18
open Go.Ab
set_option linter.unusedVariables false
set_option maxRecDepth 100000
def a0 : V := (.row [(.int .i64 (-2)), (.int .i64 3), (.int .i64 0), (.int .i64 4)] 2 .unk)
def a1 : V := (.agg [(asciiV "c"), (.int .i64 0), (.int .i64 1), (.row [(asciiV "red"), (asciiV "green")] 2 .unk)])
def a2 : V := (.row [(.int .i64 2), (.int .i64 0), (asciiV "a"), (.int .i64 7), (.int .i64 0), (asciiV "")] 2 .full)
def a3 : V := (.row [(.int .i64 2), (.int .i64 0), (asciiV "a"), (.int .i64 2), (.int .i64 0), (asciiV "b"), (.int .i64 5), (.int .i64 0), (asciiV "")] 3 .full)
def a4 : V := (.row [(.int .i64 2), (.int .i64 0), (asciiV "a"), (.int .i64 2), (.int .i64 0), (asciiV "b"), (.int .i64 4), (.int .i64 0), (asciiV "")] 3 .full)
def a5 : V := (.row [(.int .i64 2), (.int .i64 0), (asciiV "a"), (.int .i64 2), (.int .i64 0), (asciiV "b"), (.int .i64 6), (.int .i64 0), (asciiV "")] 3 .full)
def a6 : V := (.row [(.int .i64 2), (.int .i64 0), (asciiV "a"), (.int .i64 1), (.int .i64 4), (asciiV ""), (.int .i64 11), (.int .i64 0), (asciiV "")] 3 .full)
def a7 : V := (.row [(.int .i64 2), (.int .i64 0), (asciiV "a"), (.int .i64 2), (.int .i64 0), (asciiV "b"), (.int .i64 9), (.int .i64 0), (asciiV "")] 3 .full)
def a8 : V := (.row [(.int .i64 2), (.int .i64 0), (asciiV "c"), (.int .i64 3), (.int .i64 0), (asciiV "green"), (.int .i64 9), (.int .i64 0), (asciiV "")] 3 .full)
def a9 : V := (.row [(.int .i64 1), (.int .i64 1000000000), (asciiV ""), (.int .i64 1), (.int .i64 1000000000), (asciiV ""), (.int .i64 6), (.int .i64 0), (asciiV "")] 3 .full)
def a10 : V := (.row [(.int .i64 2), (.int .i64 0), (asciiV "a"), (.int .i64 1), (.int .i64 3), (asciiV ""), (.int .i64 7), (.int .i64 0), (asciiV ""), (.int .i64 12), (.int .i64 0), (asciiV "")] 4 .full)
def a11 : V := (.row [(.int .i64 2), (.int .i64 0), (asciiV "a"), (.int .i64 1), (.int .i64 4), (asciiV ""), (.int .i64 11), (.int .i64 0), (asciiV ""), (.int .i64 17), (.int .i64 0), (asciiV "")] 4 .full)
def a12 : V := (.row [(asciiV "a"), (.int .i64 (-2)), (.int .i64 3), .nilsl, (asciiV "b"), (.int .i64 0), (.int .i64 4), .nilsl, (asciiV "c"), (.int .i64 0), (.int .i64 1), (.row [(asciiV "red"), (asciiV "green")] 2 .unk)] 3 .unk)
def a13 : V := (.agg [(asciiV ""), (.bool false), (.int .i64 0), a12])
def a14 : V := (.row [(.int .i64 2), (.int .i64 0), (asciiV "a"), (.int .i64 1), (.int .i64 4), (asciiV ""), (.int .i64 11), (.int .i64 0), (asciiV ""), (.int .i64 1), (.int .i64 1), (asciiV ""), (.int .i64 1), (.int .i64 2), (asciiV ""), (.int .i64 8), (.int .i64 0), (asciiV "")] 6 .full)
def a15 : V := (.row [(.int .i64 2), (.int .i64 0), (asciiV "a"), (.int .i64 2), (.int .i64 0), (asciiV "b"), (.int .i64 11), (.int .i64 0), (asciiV ""), (.int .i64 2), (.int .i64 0), (asciiV "a"), (.int .i64 2), (.int .i64 0), (asciiV "b"), (.int .i64 8), (.int .i64 0), (asciiV "")] 6 .full)
def a16 : V := (.row [(asciiV "above"), (asciiV "and"), (asciiV "batch"), (asciiV "between"), (asciiV "bits"), (asciiV "by"), (asciiV "consistent"), (asciiV "count"), (asciiV "else"), (asciiV "factor"), (asciiV "from"), (asciiV "histogram"), (asciiV "identity"), (asciiV "if"), (asciiV "join"), (asciiV "keep"), (asciiV "late"), (asciiV "limit"), (asciiV "mode"), (asciiV "none"), (asciiV "not"), (asciiV "of"), (asciiV "on"), (asciiV "or"), (asciiV "peak"), (asciiV "prefix"), (asciiV "quantile"), (asciiV "running"), (asciiV "sum"), (asciiV "then"), (asciiV "total"), (asciiV "tree"), (asciiV "using"), (asciiV "where"), (asciiV "with")] 35 .full)
def t0 : RTab := [(27, [(asciiV "a")], (.agg [(.int .i64 2), (.int .i64 0), (asciiV "a")])),
  (27, [(asciiV "b")], (.agg [(.int .i64 2), (.int .i64 0), (asciiV "b")])),
  (29, [(.int .i64 5)], (.agg [(.int .i64 5), (.int .i64 0), (asciiV "")])),
  (46, [], a12),
  (67, [], (.agg [.nilsl, (.int .i64 0), .nilsl, (.int .i64 0), .nilsl, (.int .i64 0), .nilsl, (.int .i64 0), (.row [(.int .i64 0), (.int .i64 0)] 2 .unk), (.int .i64 0), (.row [(.int .i64 0), (.int .i64 0)] 2 .unk), (.int .i64 0), (.row [(.int .i64 0), (.int .i64 0)] 2 .unk), (.int .i64 0), (.row [(.int .i64 0)] 1 .unk), (.int .i64 0), (.row [(.int .i64 1), (.int .i64 0), (.int .i64 0)] 3 .unk), (.int .i64 0), (.row [(.int .i64 0), (.int .i64 0)] 2 .unk), (.int .i64 1), (.row [(.int .i64 0), (.int .i64 0)] 2 .unk), (.int .i64 1), (.row [(.int .i64 0), (.int .i64 0)] 2 .unk), (.int .i64 1), (.row [(.int .i64 0), (.int .i64 0)] 2 .unk), (.int .i64 1), (.row [(.int .i64 0), (.int .i64 0)] 2 .unk), (.int .i64 1), (.row [(.int .i64 0), (.int .i64 0)] 2 .unk), (.int .i64 1), (.row [(.int .i64 1), (.int .i64 1)] 2 .unk), (.int .i64 1), (.row [(.int .i64 1), (.int .i64 1)] 2 .unk), (.int .i64 1), (.row [(.int .i64 1)] 1 .unk), (.int .i64 1)])),
  (95, [a13, (asciiV "a")], (.tup [(.int .i64 0), (.bool true)])),
  (95, [a13, (asciiV "b")], (.tup [(.int .i64 1), (.bool true)])),
  (68, [a3, (.int .i64 2), a12], (.int .i64 0)),
  (109, [(asciiV "limit")], (.bool false)),
  (109, [(asciiV "else")], (.bool false)),
  (109, [(asciiV "bits")], (.bool false)),
  (109, [(asciiV "batch")], (.bool false)),
  (109, [(asciiV "and")], (.bool false)),
  (109, [(asciiV "above")], (.bool false)),
  (107, [(asciiV "above")], (.bool false)),
  (107, [(asciiV "batch")], (.bool false)),
  (109, [(asciiV "consistent")], (.bool false)),
  (109, [(asciiV "by")], (.bool false)),
  (107, [(asciiV "consistent")], (.bool false)),
  (109, [(asciiV "quantile")], (.bool false)),
  (109, [(asciiV "tree")], (.bool false)),
  (109, [(asciiV "then")], (.bool false)),
  (109, [(asciiV "sum")], (.bool false)),
  (109, [(asciiV "running")], (.bool false)),
  (107, [(asciiV "running")], (.bool false)),
  (109, [(asciiV "if")], (.bool false)),
  (109, [(asciiV "histogram")], (.bool false)),
  (109, [(asciiV "from")], (.bool false)),
  (107, [(asciiV "histogram")], (.bool false)),
  (105, [(.row [(asciiV "red"), (asciiV "green")] 2 .unk)], (.bool false)),
  (52, [a12, (asciiV "a")], (.int .i64 0)),
  (134, [a12, (.int .i64 0)], (.agg [(.int .i64 (-2)), (.int .i64 3)])),
  (52, [a12, (asciiV "b")], (.int .i64 1)),
  (134, [a12, (.int .i64 1)], (.agg [(.int .i64 0), (.int .i64 4)])),
  (54, [(.int .i64 5)], (.int .i64 2)),
  (128, [(.int .i64 (-6))], (.int .i64 (-6))),
  (128, [(.int .i64 3)], (.int .i64 3)),
  (47, [], (.row [(.int .i64 2), (.int .i64 4), (.int .i64 1)] 3 .unk)),
  (33, [a12, (.row [(.int .i64 2), (.int .i64 4), (.int .i64 1)] 3 .unk)], (.bool true)),
  (126, [(.row [(.int .i64 2), (.int .i64 4), (.int .i64 1)] 3 .unk), (.int .i64 0)], (.int .i64 2)),
  (126, [(.row [(.int .i64 2), (.int .i64 4), (.int .i64 1)] 3 .unk), (.int .i64 1)], (.int .i64 4)),
  (128, [(.int .i64 (-2))], (.int .i64 (-2))),
  (29, [(.int .i64 7)], (.agg [(.int .i64 7), (.int .i64 0), (asciiV "")])),
  (68, [a2, (.int .i64 1), a12], (.int .i64 0)),
  (54, [(.int .i64 7)], (.int .i64 1)),
  (133, [a12, (.int .i64 7), (.row [(.int .i64 (-2)), (.int .i64 3)] 1 .unk)], (.agg [(.int .i64 (-3)), (.int .i64 2)])),
  (125, [(.row [(.int .i64 2), (.int .i64 4), (.int .i64 1)] 3 .unk), (.int .i64 7), (.row [(.int .i64 2)] 1 .unk)], (.int .i64 (-2))),
  (29, [(.int .i64 11)], (.agg [(.int .i64 11), (.int .i64 0), (asciiV "")])),
  (29, [(.int .i64 8)], (.agg [(.int .i64 8), (.int .i64 0), (asciiV "")])),
  (68, [a15, (.int .i64 2), a12], (.int .i64 0)),
  (68, [a15, (.int .i64 5), a12], (.int .i64 0)),
  (54, [(.int .i64 11)], (.int .i64 2)),
  (130, [(.bool true)], (.int .i64 1)),
  (54, [(.int .i64 8)], (.int .i64 3)),
  (136, [(.agg [(.int .i64 (-2)), (.int .i64 3)]), (.agg [(.int .i64 0), (.int .i64 4)])], (.agg [(.int .i64 (-2)), (.int .i64 4)])),
  (125, [(.row [(.int .i64 2), (.int .i64 4), (.int .i64 1)] 3 .unk), (.int .i64 8), (.row [(.int .i64 1), (.int .i64 2), (.int .i64 4)] 3 .unk)], (.int .i64 2)),
  (31, [(.int .i64 4)], (.agg [(.int .i64 1), (.int .i64 4), (asciiV "")])),
  (31, [(.int .i64 1)], (.agg [(.int .i64 1), (.int .i64 1), (asciiV "")])),
  (31, [(.int .i64 2)], (.agg [(.int .i64 1), (.int .i64 2), (asciiV "")])),
  (68, [a14, (.int .i64 1), a12], (.int .i64 0)),
  (68, [a14, (.int .i64 2), a12], (.int .i64 0)),
  (68, [a14, (.int .i64 3), a12], (.int .i64 0)),
  (68, [a14, (.int .i64 4), a12], (.int .i64 0)),
  (68, [a14, (.int .i64 5), a12], (.int .i64 0)),
  (135, [a12, (.int .i64 4)], (.agg [(.int .i64 4), (.int .i64 4)])),
  (130, [(.bool false)], (.int .i64 0)),
  (135, [a12, (.int .i64 1)], (.agg [(.int .i64 1), (.int .i64 1)])),
  (135, [a12, (.int .i64 2)], (.agg [(.int .i64 2), (.int .i64 2)])),
  (133, [a12, (.int .i64 8), (.row [(.int .i64 1), (.int .i64 1), (.int .i64 1), (.int .i64 1), (.int .i64 2), (.int .i64 2)] 3 .unk)], (.agg [(.int .i64 1), (.int .i64 1)])),
  (127, [(.row [(.int .i64 2), (.int .i64 4), (.int .i64 1)] 3 .unk), (.int .i64 4)], (.int .i64 4)),
  (127, [(.row [(.int .i64 2), (.int .i64 4), (.int .i64 1)] 3 .unk), (.int .i64 1)], (.int .i64 1)),
  (127, [(.row [(.int .i64 2), (.int .i64 4), (.int .i64 1)] 3 .unk), (.int .i64 2)], (.int .i64 2)),
  (125, [(.row [(.int .i64 2), (.int .i64 4), (.int .i64 1)] 3 .unk), (.int .i64 8), (.row [(.int .i64 1), (.int .i64 1), (.int .i64 2)] 3 .unk)], (.int .i64 1)),
  (31, [(.int .i64 3)], (.agg [(.int .i64 1), (.int .i64 3), (asciiV "")])),
  (29, [(.int .i64 12)], (.agg [(.int .i64 12), (.int .i64 0), (asciiV "")])),
  (68, [a10, (.int .i64 1), a12], (.int .i64 0)),
  (68, [a10, (.int .i64 2), a12], (.int .i64 0)),
  (68, [a10, (.int .i64 3), a12], (.int .i64 0)),
  (135, [a12, (.int .i64 3)], (.agg [(.int .i64 3), (.int .i64 3)])),
  (133, [a12, (.int .i64 7), (.row [(.int .i64 3), (.int .i64 3)] 1 .unk)], (.agg [(.int .i64 (-3)), (.int .i64 (-3))])),
  (54, [(.int .i64 12)], (.int .i64 2)),
  (132, [(.agg [(.int .i64 1), (.int .i64 1)])], (.agg [(.int .i64 0), (.int .i64 0)])),
  (127, [(.row [(.int .i64 2), (.int .i64 4), (.int .i64 1)] 3 .unk), (.int .i64 3)], (.int .i64 3)),
  (125, [(.row [(.int .i64 2), (.int .i64 4), (.int .i64 1)] 3 .unk), (.int .i64 7), (.row [(.int .i64 3)] 1 .unk)], (.int .i64 (-3))),
  (27, [(asciiV "c")], (.agg [(.int .i64 2), (.int .i64 0), (asciiV "c")])),
  (29, [(.int .i64 9)], (.agg [(.int .i64 9), (.int .i64 0), (asciiV "")])),
  (95, [a13, (asciiV "c")], (.tup [(.int .i64 2), (.bool true)])),
  (53, [(.row [(asciiV "red"), (asciiV "green")] 2 .unk), (asciiV "green")], (.int .i64 1)),
  (68, [a8, (.int .i64 2), a12], (.int .i64 0)),
  (52, [a12, (asciiV "c")], (.int .i64 2)),
  (134, [a12, (.int .i64 2)], (.agg [(.int .i64 0), (.int .i64 1)])),
  (54, [(.int .i64 9)], (.int .i64 2)),
  (126, [(.row [(.int .i64 2), (.int .i64 4), (.int .i64 1)] 3 .unk), (.int .i64 2)], (.int .i64 1)),
  (29, [(.int .i64 17)], (.agg [(.int .i64 17), (.int .i64 0), (asciiV "")])),
  (68, [a11, (.int .i64 1), a12], (.int .i64 0)),
  (68, [a11, (.int .i64 2), a12], (.int .i64 0)),
  (68, [a11, (.int .i64 3), a12], (.int .i64 0)),
  (54, [(.int .i64 17)], (.int .i64 1)),
  (125, [(.row [(.int .i64 2), (.int .i64 4), (.int .i64 1)] 3 .unk), (.int .i64 17), (.row [(.int .i64 1)] 1 .unk)], (.int .i64 0)),
  (29, [(.int .i64 4)], (.agg [(.int .i64 4), (.int .i64 0), (asciiV "")])),
  (68, [a4, (.int .i64 2), a12], (.int .i64 0)),
  (54, [(.int .i64 4)], (.int .i64 2)),
  (128, [(.int .i64 7)], (.int .i64 7)),
  (128, [(.int .i64 6)], (.int .i64 6)),
  (29, [(.int .i64 6)], (.agg [(.int .i64 6), (.int .i64 0), (asciiV "")])),
  (68, [a5, (.int .i64 2), a12], (.int .i64 0)),
  (54, [(.int .i64 6)], (.int .i64 2)),
  (129, [(.int .i64 (-2)), (.int .i64 0)], (.int .i64 0)),
  (129, [(.int .i64 (-2)), (.int .i64 4)], (.int .i64 (-8))),
  (136, [(.agg [(.int .i64 0), (.int .i64 0)]), (.agg [(.int .i64 (-8)), (.int .i64 (-8))])], (.agg [(.int .i64 (-8)), (.int .i64 0)])),
  (129, [(.int .i64 3), (.int .i64 0)], (.int .i64 0)),
  (136, [(.agg [(.int .i64 (-8)), (.int .i64 0)]), (.agg [(.int .i64 0), (.int .i64 0)])], (.agg [(.int .i64 (-8)), (.int .i64 0)])),
  (129, [(.int .i64 3), (.int .i64 4)], (.int .i64 12)),
  (136, [(.agg [(.int .i64 (-8)), (.int .i64 0)]), (.agg [(.int .i64 12), (.int .i64 12)])], (.agg [(.int .i64 (-8)), (.int .i64 12)])),
  (129, [(.int .i64 2), (.int .i64 4)], (.int .i64 8)),
  (68, [a6, (.int .i64 1), a12], (.int .i64 0)),
  (68, [a6, (.int .i64 2), a12], (.int .i64 0)),
  (68, [a7, (.int .i64 2), a12], (.int .i64 0)),
  (31, [(.int .i64 1000000000)], (.agg [(.int .i64 1), (.int .i64 1000000000), (asciiV "")])),
  (68, [a9, (.int .i64 0), a12], (.int .i64 0)),
  (68, [a9, (.int .i64 1), a12], (.int .i64 0)),
  (68, [a9, (.int .i64 2), a12], (.int .i64 0)),
  (135, [a12, (.int .i64 1000000000)], (.agg [(.int .i64 1000000000), (.int .i64 1000000000)])),
  (129, [(.int .i64 1000000000), (.int .i64 1000000000)], (.int .i64 1000000000000000)),
  (136, [(.agg [(.int .i64 1000000000000000), (.int .i64 1000000000000000)]), (.agg [(.int .i64 1000000000000000), (.int .i64 1000000000000000)])], (.agg [(.int .i64 1000000000000000), (.int .i64 1000000000000000)])),
  (127, [(.row [(.int .i64 2), (.int .i64 4), (.int .i64 1)] 3 .unk), (.int .i64 1000000000)], (.int .i64 1000000000))]
theorem t0_ok : ∀ p ∈ t0, RowOK env0 p.1 p.2.1 p.2.2 := rows_of_Q env0_ok (S0 := []) rowsNil (k := 1000) (by kernel_rfl)
def s0 : RTab := t0
theorem s0_ok : ∀ p ∈ s0, RowOK env0 p.1 p.2.1 p.2.2 := t0_ok
def t1 : RTab := [(88, [a12, (asciiV "a")], (.tup [(.agg [(asciiV "a"), (.int .i64 (-2)), (.int .i64 3), .nilsl]), (.bool true)])),
  (88, [a12, (asciiV "b")], (.tup [(.agg [(asciiV "b"), (.int .i64 0), (.int .i64 4), .nilsl]), (.bool true)])),
  (106, [(asciiV "limit"), (asciiV "a")], (.bool false)),
  (106, [(asciiV "else"), (asciiV "a")], (.bool false)),
  (106, [(asciiV "bits"), (asciiV "a")], (.bool false)),
  (106, [(asciiV "batch"), (asciiV "a")], (.bool false)),
  (106, [(asciiV "and"), (asciiV "a")], (.bool false)),
  (106, [(asciiV "above"), (asciiV "a")], (.bool false)),
  (106, [(asciiV "limit"), (asciiV "b")], (.bool false)),
  (106, [(asciiV "else"), (asciiV "b")], (.bool false)),
  (106, [(asciiV "bits"), (asciiV "b")], (.bool false)),
  (106, [(asciiV "batch"), (asciiV "b")], (.bool false)),
  (106, [(asciiV "and"), (asciiV "b")], (.bool true)),
  (106, [(asciiV "limit"), (asciiV "c")], (.bool false)),
  (106, [(asciiV "else"), (asciiV "c")], (.bool false)),
  (106, [(asciiV "bits"), (asciiV "c")], (.bool true)),
  (106, [(asciiV "consistent"), (asciiV "c")], (.bool false)),
  (106, [(asciiV "by"), (asciiV "c")], (.bool true)),
  (106, [(asciiV "limit"), (asciiV "red")], (.bool true)),
  (106, [(asciiV "quantile"), (asciiV "red")], (.bool true)),
  (106, [(asciiV "tree"), (asciiV "red")], (.bool false)),
  (106, [(asciiV "then"), (asciiV "red")], (.bool false)),
  (106, [(asciiV "sum"), (asciiV "red")], (.bool false)),
  (106, [(asciiV "running"), (asciiV "red")], (.bool false)),
  (106, [(asciiV "limit"), (asciiV "green")], (.bool false)),
  (106, [(asciiV "else"), (asciiV "green")], (.bool true)),
  (106, [(asciiV "if"), (asciiV "green")], (.bool false)),
  (106, [(asciiV "histogram"), (asciiV "green")], (.bool false)),
  (106, [(asciiV "from"), (asciiV "green")], (.bool true)),
  (133, [a12, (.int .i64 5), a0], (.agg [(.int .i64 (-6)), (.int .i64 3)])),
  (125, [(.row [(.int .i64 2), (.int .i64 4), (.int .i64 1)] 3 .unk), (.int .i64 5), (.row [(.int .i64 2), (.int .i64 4)] 2 .unk)], (.int .i64 (-2))),
  (39, [a2, a12, (.iface 71 a12)], (.agg [(.int .i64 (-3)), (.int .i64 2)])),
  (34, [a2, a12, (.iface 62 (.row [(.int .i64 2), (.int .i64 4), (.int .i64 1)] 3 .unk))], (.int .i64 (-2))),
  (138, [(.agg [(.int .i64 (-2)), (.int .i64 3)]), (.agg [(.int .i64 0), (.int .i64 4)])], (.agg [(.int .i64 0), (.int .i64 1)])),
  (133, [a12, (.int .i64 8), (.row [(.int .i64 0), (.int .i64 1), (.int .i64 (-2)), (.int .i64 3), (.int .i64 0), (.int .i64 4)] 3 .unk)], (.agg [(.int .i64 (-2)), (.int .i64 4)])),
  (125, [(.row [(.int .i64 2), (.int .i64 4), (.int .i64 1)] 3 .unk), (.int .i64 11), (.row [(.int .i64 2), (.int .i64 4)] 2 .unk)], (.int .i64 1)),
  (138, [(.agg [(.int .i64 (-2)), (.int .i64 3)]), (.agg [(.int .i64 4), (.int .i64 4)])], (.agg [(.int .i64 1), (.int .i64 1)])),
  (138, [(.agg [(.int .i64 (-3)), (.int .i64 (-3))]), (.agg [(.int .i64 (-2)), (.int .i64 3)])], (.agg [(.int .i64 1), (.int .i64 1)])),
  (125, [(.row [(.int .i64 2), (.int .i64 4), (.int .i64 1)] 3 .unk), (.int .i64 12), (.row [(.int .i64 2), (.int .i64 (-3))] 2 .unk)], (.int .i64 0)),
  (88, [a12, (asciiV "c")], (.tup [a1, (.bool true)])),
  (94, [(.row [(asciiV "red"), (asciiV "green")] 2 .unk), (asciiV "green")], (.bool true)),
  (137, [(.agg [(.int .i64 0), (.int .i64 1)]), (.agg [(.int .i64 1), (.int .i64 1)])], (.agg [(.int .i64 0), (.int .i64 1)])),
  (125, [(.row [(.int .i64 2), (.int .i64 4), (.int .i64 1)] 3 .unk), (.int .i64 9), (.row [(.int .i64 1), (.int .i64 1)] 2 .unk)], (.int .i64 1)),
  (133, [a12, (.int .i64 17), (.row [(.int .i64 1), (.int .i64 1)] 1 .unk)], (.agg [(.int .i64 0), (.int .i64 0)])),
  (133, [a12, (.int .i64 4), a0], (.agg [(.int .i64 (-2)), (.int .i64 7)])),
  (125, [(.row [(.int .i64 2), (.int .i64 4), (.int .i64 1)] 3 .unk), (.int .i64 4), (.row [(.int .i64 2), (.int .i64 4)] 2 .unk)], (.int .i64 6)),
  (133, [a12, (.int .i64 6), a0], (.agg [(.int .i64 (-8)), (.int .i64 12)])),
  (125, [(.row [(.int .i64 2), (.int .i64 4), (.int .i64 1)] 3 .unk), (.int .i64 6), (.row [(.int .i64 2), (.int .i64 4)] 2 .unk)], (.int .i64 8)),
  (137, [(.agg [(.int .i64 (-2)), (.int .i64 3)]), (.agg [(.int .i64 0), (.int .i64 4)])], (.agg [(.int .i64 0), (.int .i64 1)])),
  (125, [(.row [(.int .i64 2), (.int .i64 4), (.int .i64 1)] 3 .unk), (.int .i64 9), (.row [(.int .i64 2), (.int .i64 4)] 2 .unk)], (.int .i64 0)),
  (48, [a9, a12, (.bool false)], (.int .i64 0)),
  (133, [a12, (.int .i64 6), (.row [(.int .i64 1000000000), (.int .i64 1000000000), (.int .i64 1000000000), (.int .i64 1000000000)] 2 .unk)], (.agg [(.int .i64 1000000000000000), (.int .i64 1000000000000000)])),
  (125, [(.row [(.int .i64 2), (.int .i64 4), (.int .i64 1)] 3 .unk), (.int .i64 6), (.row [(.int .i64 1000000000), (.int .i64 1000000000)] 2 .unk)], (.int .i64 1000000000000000))]
theorem t1_ok : ∀ p ∈ t1, RowOK env0 p.1 p.2.1 p.2.2 := rows_of_Q env0_ok (S0 := s0) s0_ok (k := 1000) (by kernel_rfl)
def s1 : RTab := s0 ++ (t1)
theorem s1_ok : ∀ p ∈ s1, RowOK env0 p.1 p.2.1 p.2.2 := rowsApp s0_ok (t1_ok)
def t2 : RTab := [(68, [a3, (.int .i64 0), a12], (.int .i64 0)),
  (68, [a3, (.int .i64 1), a12], (.int .i64 0)),
  (102, [a16, (asciiV "a")], (.tup [(.int .i64 0), (.bool false)])),
  (102, [a16, (asciiV "b")], (.tup [(.int .i64 2), (.bool false)])),
  (102, [a16, (asciiV "c")], (.tup [(.int .i64 6), (.bool false)])),
  (102, [a16, (asciiV "red")], (.tup [(.int .i64 27), (.bool false)])),
  (102, [a16, (asciiV "green")], (.tup [(.int .i64 11), (.bool false)])),
  (39, [a3, a12, (.iface 71 a12)], (.agg [(.int .i64 (-6)), (.int .i64 3)])),
  (34, [a3, a12, (.iface 62 (.row [(.int .i64 2), (.int .i64 4), (.int .i64 1)] 3 .unk))], (.int .i64 (-2))),
  (68, [a2, (.int .i64 0), a12], (.int .i64 0)),
  (68, [a15, (.int .i64 0), a12], (.int .i64 0)),
  (68, [a15, (.int .i64 1), a12], (.int .i64 0)),
  (68, [a15, (.int .i64 3), a12], (.int .i64 0)),
  (68, [a15, (.int .i64 4), a12], (.int .i64 0)),
  (133, [a12, (.int .i64 11), a0], (.agg [(.int .i64 0), (.int .i64 1)])),
  (34, [a15, a12, (.iface 62 (.row [(.int .i64 2), (.int .i64 4), (.int .i64 1)] 3 .unk))], (.int .i64 2)),
  (68, [a14, (.int .i64 0), a12], (.int .i64 0)),
  (133, [a12, (.int .i64 11), (.row [(.int .i64 (-2)), (.int .i64 3), (.int .i64 4), (.int .i64 4)] 2 .unk)], (.agg [(.int .i64 1), (.int .i64 1)])),
  (34, [a14, a12, (.iface 62 (.row [(.int .i64 2), (.int .i64 4), (.int .i64 1)] 3 .unk))], (.int .i64 1)),
  (68, [a10, (.int .i64 0), a12], (.int .i64 0)),
  (133, [a12, (.int .i64 12), (.row [(.int .i64 (-2)), (.int .i64 3), (.int .i64 (-3)), (.int .i64 (-3))] 2 .unk)], (.agg [(.int .i64 0), (.int .i64 0)])),
  (34, [a10, a12, (.iface 62 (.row [(.int .i64 2), (.int .i64 4), (.int .i64 1)] 3 .unk))], (.int .i64 0)),
  (68, [a8, (.int .i64 0), a12], (.int .i64 0)),
  (87, [a8, (.int .i64 1), a12], (.int .i64 0)),
  (133, [a12, (.int .i64 9), (.row [(.int .i64 0), (.int .i64 1), (.int .i64 1), (.int .i64 1)] 2 .unk)], (.agg [(.int .i64 0), (.int .i64 1)])),
  (34, [a8, a12, (.iface 62 (.row [(.int .i64 2), (.int .i64 4), (.int .i64 1)] 3 .unk))], (.int .i64 1)),
  (68, [a11, (.int .i64 0), a12], (.int .i64 0)),
  (34, [a11, a12, (.iface 62 (.row [(.int .i64 2), (.int .i64 4), (.int .i64 1)] 3 .unk))], (.int .i64 0)),
  (68, [a4, (.int .i64 0), a12], (.int .i64 0)),
  (68, [a4, (.int .i64 1), a12], (.int .i64 0)),
  (39, [a4, a12, (.iface 71 a12)], (.agg [(.int .i64 (-2)), (.int .i64 7)])),
  (34, [a4, a12, (.iface 62 (.row [(.int .i64 2), (.int .i64 4), (.int .i64 1)] 3 .unk))], (.int .i64 6)),
  (68, [a5, (.int .i64 0), a12], (.int .i64 0)),
  (68, [a5, (.int .i64 1), a12], (.int .i64 0)),
  (39, [a5, a12, (.iface 71 a12)], (.agg [(.int .i64 (-8)), (.int .i64 12)])),
  (34, [a5, a12, (.iface 62 (.row [(.int .i64 2), (.int .i64 4), (.int .i64 1)] 3 .unk))], (.int .i64 8)),
  (68, [a6, (.int .i64 0), a12], (.int .i64 0)),
  (34, [a6, a12, (.iface 62 (.row [(.int .i64 2), (.int .i64 4), (.int .i64 1)] 3 .unk))], (.int .i64 1)),
  (68, [a7, (.int .i64 0), a12], (.int .i64 0)),
  (68, [a7, (.int .i64 1), a12], (.int .i64 0)),
  (133, [a12, (.int .i64 9), a0], (.agg [(.int .i64 0), (.int .i64 1)])),
  (34, [a7, a12, (.iface 62 (.row [(.int .i64 2), (.int .i64 4), (.int .i64 1)] 3 .unk))], (.int .i64 0)),
  (39, [a9, a12, (.iface 71 a12)], (.agg [(.int .i64 1000000000000000), (.int .i64 1000000000000000)])),
  (34, [a9, a12, (.iface 62 (.row [(.int .i64 2), (.int .i64 4), (.int .i64 1)] 3 .unk))], (.int .i64 1000000000000000))]
theorem t2_ok : ∀ p ∈ t2, RowOK env0 p.1 p.2.1 p.2.2 := rows_of_Q env0_ok (S0 := s1) s1_ok (k := 1000) (by kernel_rfl)
def s2 : RTab := s1 ++ (t2)
theorem s2_ok : ∀ p ∈ s2, RowOK env0 p.1 p.2.1 p.2.2 := rowsApp s1_ok (t2_ok)
def t3 : RTab := [(48, [a3, a12, (.bool false)], (.int .i64 0)),
  (96, [(asciiV "a")], (.bool true)),
  (96, [(asciiV "b")], (.bool true)),
  (96, [(asciiV "c")], (.bool true)),
  (96, [(asciiV "red")], (.bool true)),
  (96, [(asciiV "green")], (.bool true)),
  (48, [a2, a12, (.bool false)], (.int .i64 0)),
  (48, [a15, a12, (.bool false)], (.int .i64 0)),
  (39, [a15, a12, (.iface 71 a12)], (.agg [(.int .i64 (-2)), (.int .i64 4)])),
  (48, [a14, a12, (.bool false)], (.int .i64 0)),
  (39, [a14, a12, (.iface 71 a12)], (.agg [(.int .i64 1), (.int .i64 1)])),
  (48, [a10, a12, (.bool true)], (.int .i64 0)),
  (39, [a10, a12, (.iface 71 a12)], (.agg [(.int .i64 0), (.int .i64 0)])),
  (68, [a8, (.int .i64 1), a12], (.int .i64 0)),
  (39, [a8, a12, (.iface 71 a12)], (.agg [(.int .i64 0), (.int .i64 1)])),
  (48, [a11, a12, (.bool true)], (.int .i64 0)),
  (39, [a11, a12, (.iface 71 a12)], (.agg [(.int .i64 0), (.int .i64 0)])),
  (48, [a4, a12, (.bool false)], (.int .i64 0)),
  (48, [a5, a12, (.bool false)], (.int .i64 0)),
  (48, [a6, a12, (.bool true)], (.int .i64 0)),
  (39, [a6, a12, (.iface 71 a12)], (.agg [(.int .i64 1), (.int .i64 1)])),
  (48, [a7, a12, (.bool true)], (.int .i64 0)),
  (39, [a7, a12, (.iface 71 a12)], (.agg [(.int .i64 0), (.int .i64 1)]))]
theorem t3_ok : ∀ p ∈ t3, RowOK env0 p.1 p.2.1 p.2.2 := rows_of_Q env0_ok (S0 := s2) s2_ok (k := 1000) (by kernel_rfl)
def s3 : RTab := s2 ++ (t3)
theorem s3_ok : ∀ p ∈ s3, RowOK env0 p.1 p.2.1 p.2.2 := rowsApp s2_ok (t3_ok)
def t4 : RTab := [(89, [(.row [(asciiV "a"), (.int .i64 (-2)), (.int .i64 3), .nilsl] 1 .full), (.int .i64 0)], (.int .i64 0)),
  (89, [(.row [(asciiV "b"), (.int .i64 0), (.int .i64 4), .nilsl] 1 .full), (.int .i64 0)], (.int .i64 0)),
  (104, [(asciiV "red")], (.bool false)),
  (104, [(asciiV "green")], (.bool false)),
  (48, [a8, a12, (.bool true)], (.int .i64 0))]
theorem t4_ok : ∀ p ∈ t4, RowOK env0 p.1 p.2.1 p.2.2 := rows_of_Q env0_ok (S0 := s3) s3_ok (k := 1000) (by kernel_rfl)
def s4 : RTab := s3 ++ (t4)
theorem s4_ok : ∀ p ∈ s4, RowOK env0 p.1 p.2.1 p.2.2 := rowsApp s3_ok (t4_ok)
def t5 : RTab := [(73, [(.agg [(asciiV "a"), (.int .i64 (-2)), (.int .i64 3), .nilsl])], (.bool true)),
  (73, [(.agg [(asciiV "b"), (.int .i64 0), (.int .i64 4), .nilsl])], (.bool true)),
  (108, [(.row [(asciiV "red"), (asciiV "green")] 2 .unk), (.func 104 [] [])], (.int .i64 (-1)))]
theorem t5_ok : ∀ p ∈ t5, RowOK env0 p.1 p.2.1 p.2.2 := rows_of_Q env0_ok (S0 := s4) s4_ok (k := 1000) (by kernel_rfl)
def s5 : RTab := s4 ++ (t5)
theorem s5_ok : ∀ p ∈ s5, RowOK env0 p.1 p.2.1 p.2.2 := rowsApp s4_ok (t5_ok)
def t6 : RTab := [(51, [(.agg [(asciiV "a"), (.int .i64 (-2)), (.int .i64 3), .nilsl])], (.int .i64 6)),
  (51, [(.agg [(asciiV "b"), (.int .i64 0), (.int .i64 4), .nilsl])], (.int .i64 5)),
  (103, [(.row [(asciiV "red"), (asciiV "green")] 2 .unk), (.func 104 [] [])], (.bool false))]
theorem t6_ok : ∀ p ∈ t6, RowOK env0 p.1 p.2.1 p.2.2 := rows_of_Q env0_ok (S0 := s5) s5_ok (k := 1000) (by kernel_rfl)
def s6 : RTab := s5 ++ (t6)
theorem s6_ok : ∀ p ∈ s6, RowOK env0 p.1 p.2.1 p.2.2 := rowsApp s5_ok (t6_ok)
def t7 : RTab := [(50, [(.agg [(asciiV "a"), (.int .i64 (-2)), (.int .i64 3), .nilsl])], (.bool false)),
  (50, [(.agg [(asciiV "b"), (.int .i64 0), (.int .i64 4), .nilsl])], (.bool false)),
  (98, [a1], (.int .i64 0))]
theorem t7_ok : ∀ p ∈ t7, RowOK env0 p.1 p.2.1 p.2.2 := rows_of_Q env0_ok (S0 := s6) s6_ok (k := 1000) (by kernel_rfl)
def s7 : RTab := s6 ++ (t7)
theorem s7_ok : ∀ p ∈ s7, RowOK env0 p.1 p.2.1 p.2.2 := rowsApp s6_ok (t7_ok)
def t8 : RTab := [(89, [(.row [(asciiV "c"), (.int .i64 0), (.int .i64 1), (.row [(asciiV "red"), (asciiV "green")] 2 .unk)] 1 .full), (.int .i64 0)], (.int .i64 0))]
theorem t8_ok : ∀ p ∈ t8, RowOK env0 p.1 p.2.1 p.2.2 := rows_of_Q env0_ok (S0 := s7) s7_ok (k := 1000) (by kernel_rfl)
def s8 : RTab := s7 ++ (t8)
theorem s8_ok : ∀ p ∈ s8, RowOK env0 p.1 p.2.1 p.2.2 := rowsApp s7_ok (t8_ok)
def t9 : RTab := [(73, [a1], (.bool true))]
theorem t9_ok : ∀ p ∈ t9, RowOK env0 p.1 p.2.1 p.2.2 := rows_of_Q env0_ok (S0 := s8) s8_ok (k := 1000) (by kernel_rfl)
def s9 : RTab := s8 ++ (t9)
theorem s9_ok : ∀ p ∈ s9, RowOK env0 p.1 p.2.1 p.2.2 := rowsApp s8_ok (t9_ok)
def t10 : RTab := [(51, [a1], (.int .i64 2))]
theorem t10_ok : ∀ p ∈ t10, RowOK env0 p.1 p.2.1 p.2.2 := rows_of_Q env0_ok (S0 := s9) s9_ok (k := 1000) (by kernel_rfl)
def s10 : RTab := s9 ++ (t10)
theorem s10_ok : ∀ p ∈ s10, RowOK env0 p.1 p.2.1 p.2.2 := rowsApp s9_ok (t10_ok)
def t11 : RTab := [(50, [a1], (.bool false))]
theorem t11_ok : ∀ p ∈ t11, RowOK env0 p.1 p.2.1 p.2.2 := rows_of_Q env0_ok (S0 := s10) s10_ok (k := 1000) (by kernel_rfl)
def s11 : RTab := s10 ++ (t11)
theorem s11_ok : ∀ p ∈ s11, RowOK env0 p.1 p.2.1 p.2.2 := rowsApp s10_ok (t11_ok)
def t12 : RTab := [(32, [a3, a12, (.bool false)], (.bool true)),
  (32, [a2, a12, (.bool false)], (.bool true)),
  (32, [a15, a12, (.bool false)], (.bool true)),
  (32, [a14, a12, (.bool false)], (.bool true)),
  (32, [a10, a12, (.bool true)], (.bool true)),
  (32, [a8, a12, (.bool true)], (.bool true)),
  (32, [a11, a12, (.bool true)], (.bool true)),
  (32, [a4, a12, (.bool false)], (.bool true)),
  (32, [a5, a12, (.bool false)], (.bool true)),
  (32, [a6, a12, (.bool true)], (.bool true)),
  (32, [a7, a12, (.bool true)], (.bool true)),
  (32, [a9, a12, (.bool false)], (.bool true))]
theorem t12_ok : ∀ p ∈ t12, RowOK env0 p.1 p.2.1 p.2.2 := rows_of_Q env0_ok (S0 := s11) s11_ok (k := 1000) (by kernel_rfl)
def s12 : RTab := s11 ++ (t12)
theorem s12_ok : ∀ p ∈ s12, RowOK env0 p.1 p.2.1 p.2.2 := rowsApp s11_ok (t12_ok)
def t13 : RTab := [(14, [a3, a12], (.tup [(.int .i64 (-6)), (.int .i64 3)])),
  (10, [a3, a12, (.row [(.int .i64 2), (.int .i64 4), (.int .i64 1)] 3 .unk)], (.int .i64 (-2))),
  (14, [a2, a12], (.tup [(.int .i64 (-3)), (.int .i64 2)])),
  (10, [a2, a12, (.row [(.int .i64 2), (.int .i64 4), (.int .i64 1)] 3 .unk)], (.int .i64 (-2))),
  (14, [a15, a12], (.tup [(.int .i64 (-2)), (.int .i64 4)])),
  (10, [a15, a12, (.row [(.int .i64 2), (.int .i64 4), (.int .i64 1)] 3 .unk)], (.int .i64 2)),
  (14, [a14, a12], (.tup [(.int .i64 1), (.int .i64 1)])),
  (10, [a14, a12, (.row [(.int .i64 2), (.int .i64 4), (.int .i64 1)] 3 .unk)], (.int .i64 1)),
  (16, [a10, a12], (.tup [(.bool false), (.bool true)])),
  (12, [a10, a12, (.row [(.int .i64 2), (.int .i64 4), (.int .i64 1)] 3 .unk)], (.bool false)),
  (16, [a8, a12], (.tup [(.bool true), (.bool true)])),
  (12, [a8, a12, (.row [(.int .i64 2), (.int .i64 4), (.int .i64 1)] 3 .unk)], (.bool true)),
  (16, [a11, a12], (.tup [(.bool false), (.bool true)])),
  (12, [a11, a12, (.row [(.int .i64 2), (.int .i64 4), (.int .i64 1)] 3 .unk)], (.bool false)),
  (14, [a4, a12], (.tup [(.int .i64 (-2)), (.int .i64 7)])),
  (10, [a4, a12, (.row [(.int .i64 2), (.int .i64 4), (.int .i64 1)] 3 .unk)], (.int .i64 6)),
  (14, [a5, a12], (.tup [(.int .i64 (-8)), (.int .i64 12)])),
  (10, [a5, a12, (.row [(.int .i64 2), (.int .i64 4), (.int .i64 1)] 3 .unk)], (.int .i64 8)),
  (16, [a6, a12], (.tup [(.bool true), (.bool false)])),
  (12, [a6, a12, (.row [(.int .i64 2), (.int .i64 4), (.int .i64 1)] 3 .unk)], (.bool true)),
  (16, [a7, a12], (.tup [(.bool true), (.bool true)])),
  (12, [a7, a12, (.row [(.int .i64 2), (.int .i64 4), (.int .i64 1)] 3 .unk)], (.bool false)),
  (14, [a9, a12], (.tup [(.int .i64 1000000000000000), (.int .i64 1000000000000000)])),
  (10, [a9, a12, (.row [(.int .i64 2), (.int .i64 4), (.int .i64 1)] 3 .unk)], (.int .i64 1000000000000000))]
theorem t13_ok : ∀ p ∈ t13, RowOK env0 p.1 p.2.1 p.2.2 := rows_of_Q env0_ok (S0 := s12) s12_ok (k := 1000) (by kernel_rfl)
def s13 : RTab := s12 ++ (t13)
theorem s13_ok : ∀ p ∈ s13, RowOK env0 p.1 p.2.1 p.2.2 := rowsApp s12_ok (t13_ok)
def t14 : RTab := [(28, [(.int .i64 (-6)), (.int .i64 3), (.int .i64 (-2)), a3], (.bool true)),
  (28, [(.int .i64 (-3)), (.int .i64 2), (.int .i64 (-2)), a2], (.bool true)),
  (28, [(.int .i64 (-2)), (.int .i64 4), (.int .i64 2), a15], (.bool true)),
  (28, [(.int .i64 1), (.int .i64 1), (.int .i64 1), a14], (.bool true)),
  (30, [(.bool false), (.bool true), (.bool false), a10], (.bool true)),
  (30, [(.bool true), (.bool true), (.bool true), a8], (.bool true)),
  (30, [(.bool false), (.bool true), (.bool false), a11], (.bool true)),
  (28, [(.int .i64 (-2)), (.int .i64 7), (.int .i64 6), a4], (.bool true)),
  (28, [(.int .i64 (-8)), (.int .i64 12), (.int .i64 8), a5], (.bool true)),
  (30, [(.bool true), (.bool false), (.bool true), a6], (.bool true)),
  (30, [(.bool true), (.bool true), (.bool false), a7], (.bool true)),
  (28, [(.int .i64 1000000000000000), (.int .i64 1000000000000000), (.int .i64 1000000000000000), a9], (.bool true))]
theorem t14_ok : ∀ p ∈ t14, RowOK env0 p.1 p.2.1 p.2.2 := rows_of_Q env0_ok (S0 := s13) s13_ok (k := 1000) (by kernel_rfl)
def s14 : RTab := s13 ++ (t14)
theorem s14_ok : ∀ p ∈ s14, RowOK env0 p.1 p.2.1 p.2.2 := rowsApp s13_ok (t14_ok)
def t15 : RTab := [(9, [], (.bool true))]
theorem t15_ok : ∀ p ∈ t15, RowOK env0 p.1 p.2.1 p.2.2 := rows_of_Q env0_ok (S0 := s14) s14_ok (k := 1000) (by kernel_rfl)
def s15 : RTab := s14 ++ (t15)
theorem s15_ok : ∀ p ∈ s15, RowOK env0 p.1 p.2.1 p.2.2 := rowsApp s14_ok (t15_ok)
def t16 : RTab := [(18, [], (.bool true))]
theorem t16_ok : ∀ p ∈ t16, RowOK env0 p.1 p.2.1 p.2.2 := rows_of_Q env0_ok (S0 := s15) s15_ok (k := 1000) (by kernel_rfl)
theorem known_row : RowOK env0 18 [] (.bool true) := t16_ok (18, [], .bool true) (by simp [t16])
end Go.Proofs.YtcjapamldllleaaDoor.r18
namespace Go.Proofs.YtcjapamldllleaaDoor
open Go.Ab
set_option maxRecDepth 100000
open Classical in
noncomputable def hookC (f : FuncId) (args : List V) : Option V := if h : ∃ v, ∀ σ, callFn env (ev env) f args σ = some (v, σ) then some (Classical.choose h) else none
theorem hookC_eq {f : FuncId} {args : List V} {v : V} (h : ∀ σ, callFn env (ev env) f args σ = some (v, σ)) : hookC f args = some v := by
  unfold hookC
  have he : ∃ v, ∀ σ, callFn env (ev env) f args σ = some (v, σ) := ⟨v, h⟩
  rw [dif_pos he]
  have h1 := Classical.choose_spec he S.empty
  rw [h] at h1
  simp only [Option.some.injEq, Prod.mk.injEq, and_true] at h1
  rw [← h1]
def hookK : List V → Option V
  | [] => some (.bool true)
  | _ => none
namespace N
def pureN : List Nat := [44, 27, 29, 31, 43, 45, 25, 66]
def hookL : List Nat := [10, 12, 14, 16]
def stabL (f r : Nat) : Bool := (f == 6 && r == 9) || (f == 7 && r == 12) || (f == 7 && r == 13) || (f == 21 && r == 8) || (f == 21 && r == 9) || (f == 22 && r == 5) || (f == 41 && r == 11) || (f == 65 && r == 7)
noncomputable def env : Env := { P := Tryd.prog, pure := fun f => memN f pureN, mutb := fun _ _ => false, gl := glV, hook := fun f => match Nat.beq f 18 with | true => some hookK | false => match memN f hookL with | true => some (hookC f) | false => none, rowB := true, stab := stabL }
theorem hook_ok : ∀ f g, env.hook f = some g → ∀ args v, g args = some v → ∀ Γ σ w xs, WRel Γ σ w → GOK env Γ → LRel Γ args xs → ∃ Γ' w' y, Moved Γ Γ' σ w w' ∧ VRel Γ' v y ∧ CallsV env.P f xs w y w' := by
  intro f g h
  simp only [env] at h
  split at h
  · rename_i hf
    have e := Nat.eq_of_beq_eq_true hf
    subst e
    simp only [Option.some.injEq] at h
    subst h
    intro args v hv
    unfold hookK at hv
    split at hv
    · simp only [Option.some.injEq] at hv
      subst hv
      exact r18.known_row
    · simp at hv
  · split at h
    · simp only [Option.some.injEq] at h
      subst h
      intro args v hv Γ σ w xs hw hg hx
      unfold hookC at hv
      split at hv
      · rename_i hh
        simp only [Option.some.injEq] at hv
        subst hv
        exact callFn_sound YtcjapamldllleaaDoor.env_ok (fun t r h => ev_sound YtcjapamldllleaaDoor.env_ok h) (Classical.choose_spec hh σ) hw hg hx
      · simp at hv
    · simp at h
theorem env_ok : env.Ok := ⟨by kernel_rfl, fun g v h => by obtain ⟨_, rfl⟩ := gl_cases h; kernel_rfl, hook_ok⟩
theorem env_gl {W : World} {l : List (String × DataW Unit)} (h : laidMetH Tryd.prog l W) (hp : (l.all fun x => x.2.handleName?.isNone) = true) (m0 : ("privhouse/schema.reserved", Rows.laid_privhouse_schema_reserved) ∈ l) : GOK env (Ctx.top W) := YtcjapamldllleaaDoor.env_gl h hp m0
theorem call_of {f : FuncId} {args : List V} {v : V} (hf : env.hook f = some (hookC f)) (h : ∀ σ, callFn YtcjapamldllleaaDoor.env (ev YtcjapamldllleaaDoor.env) f args σ = some (v, σ)) (rec : Task → Option Res) (σ : S) : callFn env rec f args σ = some (v, σ) := by
  unfold callFn
  rw [hf]
  simp only [hookC_eq h, Option.map_some]
theorem hk10 : env.hook 10 = some (hookC 10) := rfl
theorem hk12 : env.hook 12 = some (hookC 12) := rfl
theorem hk14 : env.hook 14 = some (hookC 14) := rfl
theorem hk16 : env.hook 16 = some (hookC 16) := rfl
theorem known_call (σ : S) : callFn env (ev env) 18 [] σ = some (.bool true, σ) := rfl
end N
end Go.Proofs.YtcjapamldllleaaDoor
