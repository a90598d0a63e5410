/- Proved here: the runs of SensKnown -/
import Derived.Test.YtlefnfhnjoknoaaGreatDoorEnv
namespace Go.Proofs.YtlefnfhnjoknoaaGreatDoor.r4
open Go.Ab
set_option linter.unusedVariables false
set_option maxRecDepth 100000
def a0 : V := (.agg [(asciiV "colour"), (.int .i64 0), (.int .i64 1), (.row [(asciiV "red"), (asciiV "green")] 2 .unk)])
def a1 : V := (.row [(asciiV "colour"), (.int .i64 0), (.int .i64 1), (.row [(asciiV "red"), (asciiV "green")] 2 .full)] 1 .full)
def a2 : V := (.tup [a0, (.bool true)])
def a3 : V := (.row [(asciiV "age"), (.int .i64 0), (.int .i64 120), .nilsl, (asciiV "colour"), (.int .i64 0), (.int .i64 1), (.row [(asciiV "red"), (asciiV "green")] 2 .full)] 2 .unk)
def a4 : V := (.row [(asciiV "age"), (.int .i64 0), (.int .i64 120), .nilsl, (asciiV "colour"), (.int .i64 0), (.int .i64 1), (.row [(asciiV "red"), (asciiV "green")] 2 .full)] 2 .full)
def a5 : V := (.agg [(.int .i64 1), .nilsl, (.int .i64 0), (.int .i64 0), (.int .i64 0), (.int .i64 0), (asciiV ""), (.int .i64 0), .nilsl, (.int .i64 0), (.bool false), (asciiV "people"), (.int .i64 2), (asciiV ""), (asciiV ""), (asciiV ""), (.int .i64 0), .nilsl, (asciiV "2"), (.int .i64 8)])
def a6 : V := (.agg [(.int .i64 1), .nilsl, (.int .i64 0), (.int .i64 0), (.int .i64 0), (.int .i64 0), (asciiV ""), (.int .i64 0), .nilsl, (.int .i64 0), (.bool false), (asciiV "people"), (.int .i64 9), (asciiV ""), (asciiV ""), (asciiV ""), (.int .i64 0), .nilsl, (asciiV "2"), (.int .i64 8)])
def a7 : V := (.agg [(.int .i64 1), .nilsl, (.int .i64 0), (.int .i64 0), (.int .i64 0), (.int .i64 0), (asciiV ""), (.int .i64 0), .nilsl, (.int .i64 0), (.bool false), (asciiV "people"), (.int .i64 0), (asciiV ""), (asciiV ""), (asciiV ""), (.int .i64 0), .nilsl, (asciiV "2"), (.int .i64 8)])
def a8 : V := (.agg [(.int .i64 1), .nilsl, (.int .i64 0), (.int .i64 0), (.int .i64 0), (.int .i64 0), (asciiV ""), (.int .i64 0), .nilsl, (.int .i64 0), (.bool false), (asciiV "places"), (.int .i64 0), (asciiV ""), (asciiV ""), (asciiV ""), (.int .i64 0), .nilsl, (asciiV "2"), (.int .i64 8)])
def a9 : V := (.agg [(.int .i64 3), .nilsl, (.int .i64 0), (.int .i64 0), (.int .i64 0), (.int .i64 0), (asciiV "colour"), (.int .i64 0), .nilsl, (.int .i64 0), (.bool true), (asciiV "people"), (.int .i64 0), (asciiV ""), (asciiV ""), (asciiV ""), (.int .i64 0), .nilsl, (asciiV "2"), (.int .i64 8)])
def a10 : V := (.agg [(.int .i64 9), .nilsl, (.int .i64 0), (.int .i64 0), (.int .i64 0), (.int .i64 0), (asciiV "colour"), (.int .i64 0), .nilsl, (.int .i64 0), (.bool false), (asciiV "people"), (.int .i64 0), (asciiV ""), (asciiV ""), (asciiV ""), (.int .i64 0), .nilsl, (asciiV "2"), (.int .i64 8)])
def a11 : V := (.agg [(.int .i64 1), .nilsl, (.int .i64 0), (.int .i64 0), (.int .i64 0), (.int .i64 0), (asciiV ""), (.int .i64 0), .nilsl, (.int .i64 0), (.bool false), (asciiV "people"), (.int .i64 0), (asciiV "places"), (asciiV "colour"), (asciiV "colour"), (.int .i64 9), .nilsl, (asciiV "2"), (.int .i64 8)])
def a12 : V := (.agg [(.int .i64 1), .nilsl, (.int .i64 0), (.int .i64 0), (.int .i64 0), (.int .i64 0), (asciiV ""), (.int .i64 0), .nilsl, (.int .i64 0), (.bool false), (asciiV "people"), (.int .i64 0), (asciiV "visits"), (asciiV "colour"), (asciiV "colour"), (.int .i64 9), .nilsl, (asciiV "2"), (.int .i64 8)])
def a13 : V := (.agg [(.int .i64 10), .nilsl, (.int .i64 0), (.int .i64 0), (.int .i64 0), (.int .i64 0), (asciiV "colour"), (.int .i64 0), (.row [(.int .i64 0), (.int .i64 1)] 1 .full), (.int .i64 1), (.bool false), (asciiV "people"), (.int .i64 0), (asciiV ""), (asciiV ""), (asciiV ""), (.int .i64 0), .nilsl, (asciiV "2"), (.int .i64 8)])
def a14 : V := (.agg [(.int .i64 2), (.row [(.int .i64 2), (.int .i64 0), (asciiV "age")] 1 .full), (.int .i64 0), (.int .i64 0), (.int .i64 0), (.int .i64 0), (asciiV ""), (.int .i64 0), .nilsl, (.int .i64 0), (.bool false), (asciiV "people"), (.int .i64 2), (asciiV ""), (asciiV ""), (asciiV ""), (.int .i64 0), .nilsl, (asciiV "2"), (.int .i64 8)])
def a15 : V := (.agg [(.int .i64 5), (.row [(.int .i64 2), (.int .i64 0), (asciiV "age")] 1 .full), (.int .i64 0), (.int .i64 9), (.int .i64 1), (.int .i64 4), (asciiV ""), (.int .i64 0), .nilsl, (.int .i64 0), (.bool false), (asciiV "people"), (.int .i64 0), (asciiV ""), (asciiV ""), (asciiV ""), (.int .i64 0), .nilsl, (asciiV "2"), (.int .i64 8)])
def a16 : V := (.agg [(.int .i64 2), (.row [(.int .i64 2), (.int .i64 0), (asciiV "age")] 1 .full), (.int .i64 (-5)), (.int .i64 4), (.int .i64 0), (.int .i64 0), (asciiV ""), (.int .i64 0), .nilsl, (.int .i64 0), (.bool false), (asciiV "people"), (.int .i64 2), (asciiV ""), (asciiV ""), (asciiV ""), (.int .i64 0), .nilsl, (asciiV "2"), (.int .i64 8)])
def a17 : V := (.row [(asciiV "people"), (.bool false), (.int .i64 3), a4, (asciiV "visits"), (.bool false), (.int .i64 2), a1, (asciiV "places"), (.bool true), (.int .i64 0), a1] 3 .full)
def t0 : RTab := [(207, [(asciiV "people")], (.bool true)),
  (207, [(asciiV "age")], (.bool true)),
  (207, [(asciiV "colour")], (.bool true)),
  (207, [(asciiV "red")], (.bool true)),
  (207, [(asciiV "green")], (.bool true)),
  (207, [(asciiV "visits")], (.bool true)),
  (207, [(asciiV "places")], (.bool true)),
  (127, [(asciiV "2")], (.int .i64 0)),
  (128, [(asciiV "2"), (asciiV "1")], (.tup [(.int .i64 1), (.int .i64 0)]))]
theorem t0_ok : ∀ p ∈ t0, RowOK env0 p.1 p.2.1 p.2.2 := rows_of_Q env0_ok (S0 := []) rowsNil (k := 1000) (by kernel_rfl)
def t1 : RTab := [(128, [(asciiV "2"), (asciiV "1000000")], (.tup [(.int .i64 (-1)), (.int .i64 0)])),
  (83, [a3, (asciiV "age")], (.tup [(.agg [(asciiV "age"), (.int .i64 0), (.int .i64 120), .nilsl]), (.bool true)])),
  (83, [a4, (asciiV "colour")], a2),
  (83, [a1, (asciiV "colour")], a2),
  (83, [a3, (asciiV "colour")], a2),
  (92, [(.agg [(asciiV ""), (.bool false), (.int .i64 0), a3])], (.agg [(asciiV ""), (.bool false), (.int .i64 0), (.row [(asciiV "age"), (.int .i64 0), (.int .i64 120), .nilsl, (asciiV "colour"), (.int .i64 0), (.int .i64 1), (.row [(asciiV "red"), (asciiV "green")] 2 .unk)] 2 .unk)]))]
theorem t1_ok : ∀ p ∈ t1, RowOK env0 p.1 p.2.1 p.2.2 := rows_of_Q env0_ok (S0 := []) rowsNil (k := 1000) (by kernel_rfl)
def s0 : RTab := t0 ++ (t1)
theorem s0_ok : ∀ p ∈ s0, RowOK env0 p.1 p.2.1 p.2.2 := rowsApp t0_ok (t1_ok)
def t2 : RTab := [(130, [(.agg [(asciiV "people"), (.bool false), (.int .i64 3), a4])], (.tup [(.int .i64 0), (.int .i64 (-1))])),
  (130, [(.agg [(asciiV "visits"), (.bool false), (.int .i64 2), a1])], (.tup [(.int .i64 0), (.int .i64 (-1))])),
  (130, [(.agg [(asciiV "places"), (.bool true), (.int .i64 0), a1])], (.tup [(.int .i64 0), (.int .i64 (-1))])),
  (10, [(.row [(.int .i64 2), (.int .i64 0), (asciiV "age")] 1 .full), a3, (.bool false)], (.int .i64 0))]
theorem t2_ok : ∀ p ∈ t2, RowOK env0 p.1 p.2.1 p.2.2 := rows_of_Q env0_ok (S0 := s0) s0_ok (k := 1000) (by kernel_rfl)
def s1 : RTab := s0 ++ (t2)
theorem s1_ok : ∀ p ∈ s1, RowOK env0 p.1 p.2.1 p.2.2 := rowsApp s0_ok (t2_ok)
def t3 : RTab := [(84, [a17], (.tup [(.int .i64 0), (.int .i64 (-1)), (.int .i64 (-1))]))]
theorem t3_ok : ∀ p ∈ t3, RowOK env0 p.1 p.2.1 p.2.2 := rows_of_Q env0_ok (S0 := s1) s1_ok (k := 1000) (by kernel_rfl)
def s2 : RTab := s1 ++ (t3)
theorem s2_ok : ∀ p ∈ s2, RowOK env0 p.1 p.2.1 p.2.2 := rowsApp s1_ok (t3_ok)
def t4 : RTab := [(36, [a5, a17], (.tup [(.int .i64 0), (asciiV "")])),
  (36, [a6, a17], (.tup [(.int .i64 0), (asciiV "")])),
  (36, [a14, a17], (.tup [(.int .i64 0), (asciiV "")])),
  (36, [a11, a17], (.tup [(.int .i64 0), (asciiV "")]))]
theorem t4_ok : ∀ p ∈ t4, RowOK env0 p.1 p.2.1 p.2.2 := rows_of_Q env0_ok (S0 := s2) s2_ok (k := 1000) (by kernel_rfl)
def t5 : RTab := [(36, [a9, a17], (.tup [(.int .i64 0), (asciiV "")])),
  (36, [a10, a17], (.tup [(.int .i64 0), (asciiV "")])),
  (36, [a13, a17], (.tup [(.int .i64 0), (asciiV "")])),
  (36, [a15, a17], (.tup [(.int .i64 0), (asciiV "")]))]
theorem t5_ok : ∀ p ∈ t5, RowOK env0 p.1 p.2.1 p.2.2 := rows_of_Q env0_ok (S0 := s2) s2_ok (k := 1000) (by kernel_rfl)
def t6 : RTab := [(36, [a7, a17], (.tup [(.int .i64 0), (asciiV "")])),
  (36, [a16, a17], (.tup [(.int .i64 0), (asciiV "")])),
  (36, [a12, a17], (.tup [(.int .i64 0), (asciiV "")])),
  (36, [a8, a17], (.tup [(.int .i64 0), (asciiV "")]))]
theorem t6_ok : ∀ p ∈ t6, RowOK env0 p.1 p.2.1 p.2.2 := rows_of_Q env0_ok (S0 := s2) s2_ok (k := 1000) (by kernel_rfl)
def s3 : RTab := s2 ++ (t4 ++ (t5 ++ (t6)))
theorem s3_ok : ∀ p ∈ s3, RowOK env0 p.1 p.2.1 p.2.2 := rowsApp s2_ok (rowsApp t4_ok (rowsApp t5_ok (t6_ok)))
def t7 : RTab := [(85, [a5, a17], (.bool true)),
  (85, [a6, a17], (.bool true)),
  (85, [a14, a17], (.bool true)),
  (85, [a11, a17], (.bool true)),
  (85, [a9, a17], (.bool true)),
  (85, [a10, a17], (.bool true)),
  (85, [a13, a17], (.bool true)),
  (85, [a15, a17], (.bool true)),
  (85, [a7, a17], (.bool true)),
  (85, [a16, a17], (.bool true)),
  (85, [a12, a17], (.bool true)),
  (85, [a8, a17], (.bool false))]
theorem t7_ok : ∀ p ∈ t7, RowOK env0 p.1 p.2.1 p.2.2 := rows_of_Q env0_ok (S0 := s3) s3_ok (k := 1000) (by kernel_rfl)
def s4 : RTab := s3 ++ (t7)
theorem s4_ok : ∀ p ∈ s4, RowOK env0 p.1 p.2.1 p.2.2 := rowsApp s3_ok (t7_ok)
def t8 : RTab := [(43, [a5, a17], (.int .i64 2)),
  (43, [a6, a17], (.int .i64 3)),
  (43, [a14, a17], (.int .i64 2)),
  (43, [a11, a17], (.int .i64 27)),
  (43, [a9, a17], (.int .i64 3)),
  (43, [a10, a17], (.int .i64 3)),
  (43, [a13, a17], (.int .i64 3)),
  (43, [a15, a17], (.int .i64 3)),
  (43, [a7, a17], (.int .i64 3)),
  (43, [a16, a17], (.int .i64 2)),
  (43, [a12, a17], (.int .i64 6)),
  (43, [a8, a17], (.int .i64 0)),
  (45, [a8, a17], (.int .i64 0))]
theorem t8_ok : ∀ p ∈ t8, RowOK env0 p.1 p.2.1 p.2.2 := rows_of_Q env0_ok (S0 := s4) s4_ok (k := 1000) (by kernel_rfl)
def s5 : RTab := s4 ++ (t8)
theorem s5_ok : ∀ p ∈ s5, RowOK env0 p.1 p.2.1 p.2.2 := rowsApp s4_ok (t8_ok)
def t9 : RTab := [(45, [a5, a17], (.int .i64 2)),
  (45, [a6, a17], (.int .i64 3)),
  (45, [a14, a17], (.int .i64 1)),
  (45, [a11, a17], (.int .i64 27)),
  (45, [a9, a17], (.int .i64 6)),
  (45, [a10, a17], (.int .i64 6)),
  (45, [a13, a17], (.int .i64 6)),
  (45, [a15, a17], (.int .i64 9)),
  (45, [a7, a17], (.int .i64 3)),
  (45, [a16, a17], (.int .i64 10)),
  (45, [a12, a17], (.int .i64 6))]
theorem t9_ok : ∀ p ∈ t9, RowOK env0 p.1 p.2.1 p.2.2 := rows_of_Q env0_ok (S0 := s5) s5_ok (k := 1000) (by kernel_rfl)
def s6 : RTab := s5 ++ (t9)
theorem s6_ok : ∀ p ∈ s6, RowOK env0 p.1 p.2.1 p.2.2 := rowsApp s5_ok (t9_ok)
/-- the setting of the law -/
noncomputable def env : Env := env0.tab s6
theorem env_ok : env.Ok := env0_ok.tab s6_ok
theorem env_gl {Γ : Ctx} (h : GOK env0 Γ) : GOK env Γ := GOK.tab h
theorem found4 : Go.Ab.Found env 4 [] := found_of_Q (k := 1000) (by kernel_rfl)
end Go.Proofs.YtlefnfhnjoknoaaGreatDoor.r4
