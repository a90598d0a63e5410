/- Proved here: the runs of RelKnown -/
import Derived.Test.YtlefnfhnjoknoaaGreatDoorEnv
namespace Go.Proofs.YtlefnfhnjoknoaaGreatDoor.r5
open Go.Ab
set_option linter.unusedVariables false
set_option maxRecDepth 100000
def a0 : V := (.tup [(.agg [(asciiV "age"), (.int .i64 0), (.int .i64 120), .nilsl]), (.bool true)])
def a1 : V := (.agg [(asciiV "colour"), (.int .i64 0), (.int .i64 1), (.row [(asciiV "red"), (asciiV "green")] 2 .unk)])
def a2 : V := (.tup [a1, (.bool true)])
def a3 : V := (.row [(.int .i64 2), (.int .i64 0), (asciiV "age"), (.int .i64 1), (.int .i64 30), (asciiV ""), (.int .i64 13), (.int .i64 0), (asciiV "")] 3 .full)
def a4 : V := (.row [(asciiV "age"), (.int .i64 0), (.int .i64 120), .nilsl, (asciiV "colour"), (.int .i64 0), (.int .i64 1), (.row [(asciiV "red"), (asciiV "green")] 2 .unk)] 2 .unk)
def a5 : V := (.row [(asciiV "place"), (.int .i64 0), (.int .i64 9), .nilsl, (asciiV "colour"), (.int .i64 0), (.int .i64 1), (.row [(asciiV "red"), (asciiV "green")] 2 .unk)] 2 .unk)
def a6 : V := (.row [(asciiV "age"), (.int .i64 0), (.int .i64 120), .nilsl, (asciiV "colour"), (.int .i64 0), (.int .i64 1), (.row [(asciiV "red"), (asciiV "green")] 2 .full)] 2 .full)
def a7 : V := (.row [(asciiV "place"), (.int .i64 0), (.int .i64 9), .nilsl, (asciiV "colour"), (.int .i64 0), (.int .i64 1), (.row [(asciiV "red"), (asciiV "green")] 2 .full)] 2 .full)
def a8 : V := (.row [(.int .i64 1), (.row [(.int .i64 30), (.int .i64 0)] 2 .unk), (.int .i64 2), (.row [(.int .i64 31), (.int .i64 1)] 2 .unk), (.int .i64 1), (.row [(.int .i64 32), (.int .i64 1)] 2 .unk)] 3 .unk)
def a9 : V := (.row [(.int .i64 0), (.row [(.int .i64 5), (.int .i64 1)] 2 .full), (.int .i64 0), (.row [(.int .i64 6), (.int .i64 1)] 2 .full), (.int .i64 0), (.row [(.int .i64 7), (.int .i64 0)] 2 .full)] 3 .full)
def a10 : V := (.row [(.int .i64 1), (.row [(.int .i64 30), (.int .i64 0)] 2 .full), (.int .i64 2), (.row [(.int .i64 31), (.int .i64 1)] 2 .full), (.int .i64 1), (.row [(.int .i64 32), (.int .i64 1)] 2 .full)] 3 .full)
def a11 : V := (.agg [(asciiV ""), (.bool false), (.int .i64 0), a4])
def a12 : V := (.agg [(asciiV "places"), (.bool true), (.int .i64 0), a5])
def a13 : V := (.agg [(asciiV "people"), (.bool false), (.int .i64 3), a4])
def a14 : V := (.agg [(asciiV "places"), (.bool true), (.int .i64 0), a7])
def a15 : V := (.agg [(asciiV "people"), (.bool false), (.int .i64 3), a6])
def a16 : V := (.agg [(.int .i64 1), .nilsl, (.int .i64 0), (.int .i64 0), (.int .i64 0), (.int .i64 0), (asciiV ""), (.int .i64 0), .nilsl, (.int .i64 0), (.bool false), (asciiV "people"), (.int .i64 1), (asciiV ""), (asciiV ""), (asciiV ""), (.int .i64 0), .nilsl, (asciiV "2"), (.int .i64 8)])
def a17 : V := (.agg [(.int .i64 3), .nilsl, (.int .i64 0), (.int .i64 0), (.int .i64 0), (.int .i64 0), (asciiV "colour"), (.int .i64 0), .nilsl, (.int .i64 0), (.bool false), (asciiV "people"), (.int .i64 0), (asciiV ""), (asciiV ""), (asciiV ""), (.int .i64 0), .nilsl, (asciiV "2"), (.int .i64 8)])
def a18 : V := (.agg [(.int .i64 1), .nilsl, (.int .i64 0), (.int .i64 0), (.int .i64 0), (.int .i64 0), (asciiV ""), (.int .i64 0), .nilsl, (.int .i64 0), (.bool false), (asciiV "people"), (.int .i64 0), (asciiV "people"), (asciiV "colour"), (asciiV "colour"), (.int .i64 2), .nilsl, (asciiV "2"), (.int .i64 8)])
def a19 : V := (.row [(asciiV "age"), (.int .i64 0), (.int .i64 120), .nilsl, (asciiV "colour"), (.int .i64 0), (.int .i64 1), (.row [(asciiV "red"), (asciiV "green")] 2 .unk), (asciiV "place"), (.int .i64 0), (.int .i64 9), .nilsl, (asciiV "colour"), (.int .i64 0), (.int .i64 1), (.row [(asciiV "red"), (asciiV "green")] 2 .unk)] 4 .unk)
def a20 : V := (.row [(asciiV "age"), (.int .i64 0), (.int .i64 120), .nilsl, (asciiV "colour"), (.int .i64 0), (.int .i64 1), (.row [(asciiV "red"), (asciiV "green")] 2 .unk), (asciiV "age"), (.int .i64 0), (.int .i64 120), .nilsl, (asciiV "colour"), (.int .i64 0), (.int .i64 1), (.row [(asciiV "red"), (asciiV "green")] 2 .unk)] 4 .unk)
def a21 : V := (.agg [(.int .i64 4), (.row [(.int .i64 2), (.int .i64 0), (asciiV "age")] 1 .full), (.int .i64 0), (.int .i64 31), (.int .i64 0), (.int .i64 0), (asciiV "colour"), (.int .i64 0), .nilsl, (.int .i64 0), (.bool false), (asciiV "people"), (.int .i64 0), (asciiV ""), (asciiV ""), (asciiV ""), (.int .i64 0), .nilsl, (asciiV "2"), (.int .i64 8)])
def a22 : V := (.agg [(asciiV ""), (.bool false), (.int .i64 0), a19])
def a23 : V := (.agg [(asciiV ""), (.bool false), (.int .i64 0), a20])
def a24 : V := (.row [(asciiV "people"), (.bool false), (.int .i64 3), a4, (asciiV "places"), (.bool true), (.int .i64 0), a5] 2 .unk)
def a25 : V := (.agg [(.int .i64 2), (.row [(.int .i64 2), (.int .i64 0), (asciiV "place")] 1 .full), (.int .i64 0), (.int .i64 5), (.int .i64 0), (.int .i64 0), (asciiV ""), (.int .i64 0), .nilsl, (.int .i64 0), (.bool false), (asciiV "people"), (.int .i64 0), (asciiV "places"), (asciiV "colour"), (asciiV "colour"), (.int .i64 1), a3, (asciiV "2"), (.int .i64 8)])
def a26 : V := (.row [(asciiV "people"), (.bool false), (.int .i64 3), a6, a10, (asciiV "places"), (.bool true), (.int .i64 0), a7, a9] 2 .full)
def t0 : RTab := [(92, [a15], a13),
  (92, [a14], a12),
  (207, [(asciiV "people")], (.bool true)),
  (207, [(asciiV "age")], (.bool true)),
  (207, [(asciiV "colour")], (.bool true)),
  (207, [(asciiV "red")], (.bool true)),
  (207, [(asciiV "green")], (.bool true)),
  (207, [(asciiV "places")], (.bool true)),
  (207, [(asciiV "place")], (.bool true)),
  (83, [a4, (asciiV "colour")], a2),
  (83, [a5, (asciiV "colour")], a2),
  (83, [a19, (asciiV "age")], a0),
  (83, [a19, (asciiV "place")], (.tup [(.agg [(asciiV "place"), (.int .i64 0), (.int .i64 9), .nilsl]), (.bool true)])),
  (127, [(asciiV "2")], (.int .i64 0)),
  (128, [(asciiV "2"), (asciiV "1")], (.tup [(.int .i64 1), (.int .i64 0)]))]
theorem t0_ok : ∀ p ∈ t0, RowOK env0 p.1 p.2.1 p.2.2 := rows_of_Q env0_ok (S0 := []) rowsNil (k := 1000) (by kernel_rfl)
def t1 : RTab := [(128, [(asciiV "2"), (asciiV "1000000")], (.tup [(.int .i64 (-1)), (.int .i64 0)])),
  (92, [a22], a22),
  (92, [a11], a11),
  (83, [a4, (asciiV "age")], a0),
  (48, [.nilsl], .nilsl),
  (84, [.nilsl], (.tup [(.int .i64 0), (.int .i64 (-1)), (.int .i64 (-1))])),
  (92, [a23], a23)]
theorem t1_ok : ∀ p ∈ t1, RowOK env0 p.1 p.2.1 p.2.2 := rows_of_Q env0_ok (S0 := []) rowsNil (k := 1000) (by kernel_rfl)
def s0 : RTab := t0 ++ (t1)
theorem s0_ok : ∀ p ∈ s0, RowOK env0 p.1 p.2.1 p.2.2 := rowsApp t0_ok (t1_ok)
def t2 : RTab := [(48, [a26], a24),
  (130, [a13], (.tup [(.int .i64 0), (.int .i64 (-1))])),
  (130, [a12], (.tup [(.int .i64 0), (.int .i64 (-1))])),
  (130, [a15], (.tup [(.int .i64 0), (.int .i64 (-1))])),
  (130, [a14], (.tup [(.int .i64 0), (.int .i64 (-1))])),
  (10, [a3, a19, (.bool true)], (.int .i64 0)),
  (10, [(.row [(.int .i64 2), (.int .i64 0), (asciiV "place")] 1 .full), a19, (.bool false)], (.int .i64 0)),
  (51, [(.agg [(asciiV "people"), (.bool false), (.int .i64 3), a6, a10])], (.agg [(asciiV "people"), (.bool false), (.int .i64 3), a4, a8])),
  (10, [(.row [(.int .i64 2), (.int .i64 0), (asciiV "age")] 1 .full), a4, (.bool false)], (.int .i64 0)),
  (91, [.nilsl], (.tup [(.int .i64 0), (.int .i64 (-1)), (.int .i64 (-1))])),
  (36, [a18, .nilsl], (.tup [(.int .i64 7), (asciiV "table")]))]
theorem t2_ok : ∀ p ∈ t2, RowOK env0 p.1 p.2.1 p.2.2 := rows_of_Q env0_ok (S0 := s0) s0_ok (k := 1000) (by kernel_rfl)
def s1 : RTab := s0 ++ (t2)
theorem s1_ok : ∀ p ∈ s1, RowOK env0 p.1 p.2.1 p.2.2 := rowsApp s0_ok (t2_ok)
def t3 : RTab := [(84, [a24], (.tup [(.int .i64 0), (.int .i64 (-1)), (.int .i64 (-1))])),
  (107, [a3, a19, (.bool true)], (.bool true)),
  (107, [(.row [(.int .i64 2), (.int .i64 0), (asciiV "place")] 1 .full), a19, (.bool false)], (.bool true)),
  (107, [(.row [(.int .i64 2), (.int .i64 0), (asciiV "age")] 1 .full), a4, (.bool false)], (.bool true)),
  (21, [.nilsl, a18], .nilsl)]
theorem t3_ok : ∀ p ∈ t3, RowOK env0 p.1 p.2.1 p.2.2 := rows_of_Q env0_ok (S0 := s1) s1_ok (k := 1000) (by kernel_rfl)
def s2 : RTab := s1 ++ (t3)
theorem s2_ok : ∀ p ∈ s2, RowOK env0 p.1 p.2.1 p.2.2 := rowsApp s1_ok (t3_ok)
def t4 : RTab := [(91, [a26], (.tup [(.int .i64 0), (.int .i64 (-1)), (.int .i64 (-1))])),
  (36, [a25, a24], (.tup [(.int .i64 0), (asciiV "")])),
  (36, [a21, a24], (.tup [(.int .i64 0), (asciiV "")])),
  (36, [a18, a24], (.tup [(.int .i64 0), (asciiV "")])),
  (36, [a16, a24], (.tup [(.int .i64 0), (asciiV "")]))]
theorem t4_ok : ∀ p ∈ t4, RowOK env0 p.1 p.2.1 p.2.2 := rows_of_Q env0_ok (S0 := s2) s2_ok (k := 1000) (by kernel_rfl)
def t5 : RTab := [(36, [a17, a24], (.tup [(.int .i64 0), (asciiV "")]))]
theorem t5_ok : ∀ p ∈ t5, RowOK env0 p.1 p.2.1 p.2.2 := rows_of_Q env0_ok (S0 := s2) s2_ok (k := 1000) (by kernel_rfl)
def s3 : RTab := s2 ++ (t4 ++ (t5))
theorem s3_ok : ∀ p ∈ s3, RowOK env0 p.1 p.2.1 p.2.2 := rowsApp s2_ok (rowsApp t4_ok (t5_ok))
def t6 : RTab := [(21, [a26, a25], (.row [(.int .i64 2), (.row [(.int .i64 31), (.int .i64 1), (.int .i64 5), (.int .i64 1)] 4 .unk), (.int .i64 1), (.row [(.int .i64 32), (.int .i64 1), (.int .i64 5), (.int .i64 1)] 4 .unk)] 2 .unk)),
  (21, [a26, a21], a8),
  (21, [a26, a18], (.row [(.int .i64 1), (.row [(.int .i64 30), (.int .i64 0), (.int .i64 30), (.int .i64 0)] 4 .unk), (.int .i64 2), (.row [(.int .i64 31), (.int .i64 1), (.int .i64 31), (.int .i64 1)] 4 .unk), (.int .i64 1), (.row [(.int .i64 32), (.int .i64 1), (.int .i64 32), (.int .i64 1)] 4 .unk)] 3 .unk)),
  (21, [a26, a16], (.row [(.int .i64 1), (.row [(.int .i64 30), (.int .i64 0)] 2 .unk), (.int .i64 2), (.row [(.int .i64 31), (.int .i64 1)] 2 .unk)] 2 .unk)),
  (21, [a26, a17], a8)]
theorem t6_ok : ∀ p ∈ t6, RowOK env0 p.1 p.2.1 p.2.2 := rows_of_Q env0_ok (S0 := s3) s3_ok (k := 1000) (by kernel_rfl)
def s4 : RTab := s3 ++ (t6)
theorem s4_ok : ∀ p ∈ s4, RowOK env0 p.1 p.2.1 p.2.2 := rowsApp s3_ok (t6_ok)
def t7 : RTab := [(25, [a26, a25], (.row [(.int .i64 5), (.int .i64 5)] 2 .unk)),
  (25, [a26, a21], (.row [(.int .i64 30), (.int .i64 31), (.int .i64 31)] 3 .unk)),
  (28, [a26, a17], (.row [(.int .i64 1), (.int .i64 2)] 2 .unk)),
  (28, [a26, a18], .nilsl)]
theorem t7_ok : ∀ p ∈ t7, RowOK env0 p.1 p.2.1 p.2.2 := rows_of_Q env0_ok (S0 := s4) s4_ok (k := 1000) (by kernel_rfl)
def s5 : RTab := s4 ++ (t7)
theorem s5_ok : ∀ p ∈ s5, RowOK env0 p.1 p.2.1 p.2.2 := rowsApp s4_ok (t7_ok)
def t8 : RTab := [(26, [a26, a21], (.row [(.int .i64 30), (.int .i64 62)] 2 .unk))]
theorem t8_ok : ∀ p ∈ t8, RowOK env0 p.1 p.2.1 p.2.2 := rows_of_Q env0_ok (S0 := s5) s5_ok (k := 1000) (by kernel_rfl)
def s6 : RTab := s5 ++ (t8)
theorem s6_ok : ∀ p ∈ s6, RowOK env0 p.1 p.2.1 p.2.2 := rowsApp s5_ok (t8_ok)
/-- the setting of the law -/
noncomputable def env : Env := env0.tab s6
theorem env_ok : env.Ok := env0_ok.tab s6_ok
theorem env_gl {Γ : Ctx} (h : GOK env0 Γ) : GOK env Γ := GOK.tab h
theorem found5 : Go.Ab.Found env 5 [] := found_of_Q (k := 1000) (by kernel_rfl)
end Go.Proofs.YtlefnfhnjoknoaaGreatDoor.r5
