/- Proved here: the runs of CheckKnown -/
import Derived.Test.YtlefnfhnjoknoaaGreatDoorEnv
namespace Go.Proofs.YtlefnfhnjoknoaaGreatDoor.r3
open Go.Ab
set_option linter.unusedVariables false
set_option maxRecDepth 100000
def a0 : V := (.tup [(.agg [(asciiV "age"), (.int .i64 0), (.int .i64 120), .nilsl]), (.bool true)])
def a1 : V := (.agg [(asciiV "colour"), (.int .i64 0), (.int .i64 1), (.row [(asciiV "red"), (asciiV "green")] 2 .unk)])
def a2 : V := (.tup [a1, (.bool true)])
def a3 : V := (.row [(.int .i64 2), (.int .i64 0), (asciiV "age"), (.int .i64 1), (.int .i64 1), (asciiV ""), (.int .i64 11), (.int .i64 0), (asciiV "")] 3 .full)
def a4 : V := (.row [(.int .i64 2), (.int .i64 0), (asciiV "colour"), (.int .i64 3), (.int .i64 0), (asciiV "red"), (.int .i64 9), (.int .i64 0), (asciiV "")] 3 .full)
def a5 : V := (.row [(.int .i64 2), (.int .i64 0), (asciiV "colour"), (.int .i64 3), (.int .i64 0), (asciiV "blue"), (.int .i64 9), (.int .i64 0), (asciiV "")] 3 .full)
def a6 : V := (.row [(asciiV "age"), (.int .i64 0), (.int .i64 120), .nilsl, (asciiV "colour"), (.int .i64 0), (.int .i64 1), (.row [(asciiV "red"), (asciiV "green")] 2 .full)] 2 .unk)
def a7 : V := (.row [(asciiV "age"), (.int .i64 0), (.int .i64 120), .nilsl, (asciiV "colour"), (.int .i64 0), (.int .i64 1), (.row [(asciiV "red"), (asciiV "green")] 2 .full)] 2 .full)
def a8 : V := (.row [(asciiV "place"), (.int .i64 0), (.int .i64 9), .nilsl, (asciiV "colour"), (.int .i64 0), (.int .i64 1), (.row [(asciiV "red"), (asciiV "green")] 2 .full)] 2 .full)
def a9 : V := (.row [(asciiV "people"), (.bool false), (.int .i64 3), a7, (asciiV "places"), (.bool true), (.int .i64 0), a8] 2 .full)
def t0 : RTab := [(207, [(asciiV "people")], (.bool true)),
  (207, [(asciiV "age")], (.bool true)),
  (207, [(asciiV "colour")], (.bool true)),
  (207, [(asciiV "red")], (.bool true)),
  (207, [(asciiV "green")], (.bool true)),
  (207, [(asciiV "places")], (.bool true)),
  (207, [(asciiV "place")], (.bool true)),
  (83, [a6, (asciiV "age")], a0),
  (83, [a7, (asciiV "colour")], a2),
  (83, [a8, (asciiV "colour")], a2),
  (83, [(.row [(asciiV "age"), (.int .i64 0), (.int .i64 120), .nilsl, (asciiV "colour"), (.int .i64 0), (.int .i64 1), (.row [(asciiV "red"), (asciiV "green")] 2 .full), (asciiV "place"), (.int .i64 0), (.int .i64 9), .nilsl, (asciiV "colour"), (.int .i64 0), (.int .i64 1), (.row [(asciiV "red"), (asciiV "green")] 2 .full)] 4 .unk), (asciiV "colour")], a2),
  (127, [(asciiV "2")], (.int .i64 0)),
  (128, [(asciiV "2"), (asciiV "1")], (.tup [(.int .i64 1), (.int .i64 0)]))]
theorem t0_ok : ∀ p ∈ t0, RowOK env0 p.1 p.2.1 p.2.2 := rows_of_Q env0_ok (S0 := []) rowsNil (k := 1000) (by kernel_rfl)
def t1 : RTab := [(128, [(asciiV "2"), (asciiV "1000000")], (.tup [(.int .i64 (-1)), (.int .i64 0)])),
  (83, [a7, (asciiV "age")], a0),
  (83, [a6, (asciiV "colour")], a2),
  (127, [(asciiV "1")], (.int .i64 0)),
  (128, [(asciiV "1"), (asciiV "1")], (.tup [(.int .i64 0), (.int .i64 0)]))]
theorem t1_ok : ∀ p ∈ t1, RowOK env0 p.1 p.2.1 p.2.2 := rows_of_Q env0_ok (S0 := []) rowsNil (k := 1000) (by kernel_rfl)
def t2 : RTab := [(128, [(asciiV "1"), (asciiV "1000000")], (.tup [(.int .i64 (-1)), (.int .i64 0)])),
  (127, [(asciiV "1000001")], (.int .i64 0)),
  (128, [(asciiV "1000001"), (asciiV "1")], (.tup [(.int .i64 1), (.int .i64 0)]))]
theorem t2_ok : ∀ p ∈ t2, RowOK env0 p.1 p.2.1 p.2.2 := rows_of_Q env0_ok (S0 := []) rowsNil (k := 1000) (by kernel_rfl)
def t3 : RTab := [(128, [(asciiV "1000001"), (asciiV "1000000")], (.tup [(.int .i64 1), (.int .i64 0)])),
  (10, [(.row [(.int .i64 4), (.int .i64 0), (asciiV "")] 1 .full), a7, (.bool false)], (.int .i64 10))]
theorem t3_ok : ∀ p ∈ t3, RowOK env0 p.1 p.2.1 p.2.2 := rows_of_Q env0_ok (S0 := []) rowsNil (k := 1000) (by kernel_rfl)
def s0 : RTab := t0 ++ (t1 ++ (t2 ++ (t3)))
theorem s0_ok : ∀ p ∈ s0, RowOK env0 p.1 p.2.1 p.2.2 := rowsApp t0_ok (rowsApp t1_ok (rowsApp t2_ok (t3_ok)))
def t4 : RTab := [(130, [(.agg [(asciiV "people"), (.bool false), (.int .i64 3), a7])], (.tup [(.int .i64 0), (.int .i64 (-1))])),
  (130, [(.agg [(asciiV "places"), (.bool true), (.int .i64 0), a8])], (.tup [(.int .i64 0), (.int .i64 (-1))])),
  (10, [(.row [(.int .i64 2), (.int .i64 0), (asciiV "age")] 1 .full), a6, (.bool false)], (.int .i64 0)),
  (10, [a3, a7, (.bool false)], (.int .i64 10)),
  (10, [a3, a7, (.bool true)], (.int .i64 0)),
  (10, [(.row [(.int .i64 2), (.int .i64 0), (asciiV "age"), (.int .i64 3), (.int .i64 0), (asciiV "red"), (.int .i64 9), (.int .i64 0), (asciiV "")] 3 .full), a7, (.bool true)], (.int .i64 10)),
  (10, [a4, a6, (.bool true)], (.int .i64 0)),
  (10, [a5, a6, (.bool true)], (.int .i64 7))]
theorem t4_ok : ∀ p ∈ t4, RowOK env0 p.1 p.2.1 p.2.2 := rows_of_Q env0_ok (S0 := s0) s0_ok (k := 1000) (by kernel_rfl)
def s1 : RTab := s0 ++ (t4)
theorem s1_ok : ∀ p ∈ s1, RowOK env0 p.1 p.2.1 p.2.2 := rowsApp s0_ok (t4_ok)
def t5 : RTab := [(84, [a9], (.tup [(.int .i64 0), (.int .i64 (-1)), (.int .i64 (-1))]))]
theorem t5_ok : ∀ p ∈ t5, RowOK env0 p.1 p.2.1 p.2.2 := rows_of_Q env0_ok (S0 := s1) s1_ok (k := 1000) (by kernel_rfl)
def s2 : RTab := s1 ++ (t5)
theorem s2_ok : ∀ p ∈ s2, RowOK env0 p.1 p.2.1 p.2.2 := rowsApp s1_ok (t5_ok)
def t6 : RTab := [(36, [(.agg [(.int .i64 1), .nilsl, (.int .i64 0), (.int .i64 0), (.int .i64 0), (.int .i64 0), (asciiV ""), (.int .i64 0), .nilsl, (.int .i64 0), (.bool false), (asciiV "animals"), (.int .i64 0), (asciiV ""), (asciiV ""), (asciiV ""), (.int .i64 0), .nilsl, (asciiV "2"), (.int .i64 8)]), a9], (.tup [(.int .i64 7), (asciiV "table")])),
  (36, [(.agg [(.int .i64 1), .nilsl, (.int .i64 0), (.int .i64 0), (.int .i64 0), (.int .i64 0), (asciiV ""), (.int .i64 0), .nilsl, (.int .i64 0), (.bool false), (asciiV "places"), (.int .i64 2), (asciiV ""), (asciiV ""), (asciiV ""), (.int .i64 0), .nilsl, (asciiV "2"), (.int .i64 8)]), a9], (.tup [(.int .i64 10), (asciiV "keep")])),
  (36, [(.agg [(.int .i64 2), (.row [(.int .i64 2), (.int .i64 0), (asciiV "age")] 1 .full), (.int .i64 5), (.int .i64 4), (.int .i64 0), (.int .i64 0), (asciiV ""), (.int .i64 0), .nilsl, (.int .i64 0), (.bool false), (asciiV "people"), (.int .i64 0), (asciiV ""), (asciiV ""), (asciiV ""), (.int .i64 0), .nilsl, (asciiV "2"), (.int .i64 8)]), a9], (.tup [(.int .i64 2), (asciiV "range")])),
  (36, [(.agg [(.int .i64 3), .nilsl, (.int .i64 0), (.int .i64 0), (.int .i64 0), (.int .i64 0), (asciiV "age"), (.int .i64 0), .nilsl, (.int .i64 0), (.bool false), (asciiV "people"), (.int .i64 0), (asciiV ""), (asciiV ""), (asciiV ""), (.int .i64 0), .nilsl, (asciiV "2"), (.int .i64 8)]), a9], (.tup [(.int .i64 2), (asciiV "column")])),
  (36, [(.agg [(.int .i64 3), .nilsl, (.int .i64 0), (.int .i64 0), (.int .i64 0), (.int .i64 0), (asciiV "colour"), (.int .i64 0), .nilsl, (.int .i64 0), (.bool false), (asciiV "people"), (.int .i64 0), (asciiV "places"), (asciiV "colour"), (asciiV "colour"), (.int .i64 2), .nilsl, (asciiV "2"), (.int .i64 8)]), a9], (.tup [(.int .i64 0), (asciiV "")])),
  (36, [(.agg [(.int .i64 1), .nilsl, (.int .i64 0), (.int .i64 0), (.int .i64 0), (.int .i64 0), (asciiV ""), (.int .i64 0), .nilsl, (.int .i64 0), (.bool false), (asciiV "places"), (.int .i64 0), (asciiV "people"), (asciiV "colour"), (asciiV "colour"), (.int .i64 1), .nilsl, (asciiV "2"), (.int .i64 8)]), a9], (.tup [(.int .i64 10), (asciiV "join")]))]
theorem t6_ok : ∀ p ∈ t6, RowOK env0 p.1 p.2.1 p.2.2 := rows_of_Q env0_ok (S0 := s2) s2_ok (k := 1000) (by kernel_rfl)
def t7 : RTab := [(36, [(.agg [(.int .i64 3), .nilsl, (.int .i64 0), (.int .i64 0), (.int .i64 0), (.int .i64 0), (asciiV "colour"), (.int .i64 0), .nilsl, (.int .i64 0), (.bool false), (asciiV "people"), (.int .i64 0), (asciiV "places"), (asciiV "age"), (asciiV "colour"), (.int .i64 2), .nilsl, (asciiV "2"), (.int .i64 8)]), a9], (.tup [(.int .i64 10), (asciiV "join")])),
  (36, [(.agg [(.int .i64 5), (.row [(.int .i64 2), (.int .i64 0), (asciiV "age")] 1 .full), (.int .i64 0), (.int .i64 64), (.int .i64 1), (.int .i64 2), (asciiV ""), (.int .i64 0), .nilsl, (.int .i64 0), (.bool false), (asciiV "people"), (.int .i64 0), (asciiV ""), (asciiV ""), (asciiV ""), (.int .i64 0), .nilsl, (asciiV "2"), (.int .i64 8)]), a9], (.tup [(.int .i64 2), (asciiV "range")])),
  (36, [(.agg [(.int .i64 10), .nilsl, (.int .i64 0), (.int .i64 0), (.int .i64 0), (.int .i64 0), (asciiV "colour"), (.int .i64 0), (.row [(.int .i64 0), (.int .i64 2)] 1 .full), (.int .i64 2), (.bool false), (asciiV "people"), (.int .i64 0), (asciiV ""), (asciiV ""), (asciiV ""), (.int .i64 0), .nilsl, (asciiV "2"), (.int .i64 8)]), a9], (.tup [(.int .i64 2), (asciiV "ranges")])),
  (36, [(.agg [(.int .i64 1), .nilsl, (.int .i64 0), (.int .i64 0), (.int .i64 0), (.int .i64 0), (asciiV ""), (.int .i64 0), .nilsl, (.int .i64 0), (.bool false), (asciiV "people"), (.int .i64 0), (asciiV ""), (asciiV ""), (asciiV ""), (.int .i64 0), .nilsl, (asciiV "1"), (.int .i64 8)]), a9], (.tup [(.int .i64 2), (asciiV "factor")])),
  (36, [(.agg [(.int .i64 1), .nilsl, (.int .i64 0), (.int .i64 0), (.int .i64 0), (.int .i64 0), (asciiV ""), (.int .i64 0), .nilsl, (.int .i64 0), (.bool false), (asciiV "people"), (.int .i64 0), (asciiV ""), (asciiV ""), (asciiV ""), (.int .i64 0), .nilsl, (asciiV "1000001"), (.int .i64 8)]), a9], (.tup [(.int .i64 2), (asciiV "factor")]))]
theorem t7_ok : ∀ p ∈ t7, RowOK env0 p.1 p.2.1 p.2.2 := rows_of_Q env0_ok (S0 := s2) s2_ok (k := 1000) (by kernel_rfl)
def t8 : RTab := [(36, [(.agg [(.int .i64 1), .nilsl, (.int .i64 0), (.int .i64 0), (.int .i64 0), (.int .i64 0), (asciiV ""), (.int .i64 0), .nilsl, (.int .i64 0), (.bool false), (asciiV "people"), (.int .i64 0), (asciiV ""), (asciiV ""), (asciiV ""), (.int .i64 0), .nilsl, (asciiV "2"), (.int .i64 257)]), a9], (.tup [(.int .i64 2), (asciiV "bits")])),
  (36, [(.agg [(.int .i64 1), .nilsl, (.int .i64 0), (.int .i64 0), (.int .i64 0), (.int .i64 0), (asciiV ""), (.int .i64 0), .nilsl, (.int .i64 0), (.bool false), (asciiV "people"), (.int .i64 0), (asciiV ""), (asciiV ""), (asciiV ""), (.int .i64 0), a4, (asciiV "2"), (.int .i64 8)]), a9], (.tup [(.int .i64 0), (asciiV "")])),
  (36, [(.agg [(.int .i64 1), .nilsl, (.int .i64 0), (.int .i64 0), (.int .i64 0), (.int .i64 0), (asciiV ""), (.int .i64 0), .nilsl, (.int .i64 0), (.bool false), (asciiV "people"), (.int .i64 0), (asciiV ""), (asciiV ""), (asciiV ""), (.int .i64 0), a5, (asciiV "2"), (.int .i64 8)]), a9], (.tup [(.int .i64 7), (asciiV "where")]))]
theorem t8_ok : ∀ p ∈ t8, RowOK env0 p.1 p.2.1 p.2.2 := rows_of_Q env0_ok (S0 := s2) s2_ok (k := 1000) (by kernel_rfl)
def s3 : RTab := s2 ++ (t6 ++ (t7 ++ (t8)))
theorem s3_ok : ∀ p ∈ s3, RowOK env0 p.1 p.2.1 p.2.2 := rowsApp s2_ok (rowsApp t6_ok (rowsApp t7_ok (t8_ok)))
/-- the setting of the law -/
noncomputable def env : Env := env0.tab s3
theorem env_ok : env.Ok := env0_ok.tab s3_ok
theorem env_gl {Γ : Ctx} (h : GOK env0 Γ) : GOK env Γ := GOK.tab h
theorem found3 : Go.Ab.Found env 3 [] := found_of_Q (k := 1000) (by kernel_rfl)
end Go.Proofs.YtlefnfhnjoknoaaGreatDoor.r3
