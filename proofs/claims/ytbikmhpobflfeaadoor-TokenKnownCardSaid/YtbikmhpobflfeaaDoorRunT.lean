/- Proved here: the runs of TokenKnown -/
import Derived.Test.YtbikmhpobflfeaaDoorEnvT
namespace Go.Proofs.YtbikmhpobflfeaaDoor.r12
open Go.Ab
set_option linter.unusedVariables false
set_option maxRecDepth 100000
def a0 : V := (.row [(asciiV "("), (asciiV "["), (asciiV "/"), (asciiV "..")] 4 .full)
def a1 : V := (.row [(asciiV ")"), (asciiV "]"), (asciiV ","), (asciiV "/"), (asciiV "..")] 5 .full)
def a2 : V := (.row [(asciiV "above"), (asciiV "and"), (asciiV "batch"), (asciiV "between"), (asciiV "bits"), (asciiV "by"), (asciiV "consistent"), (asciiV "count"), (asciiV "else"), (asciiV "factor"), (asciiV "from"), (asciiV "histogram"), (asciiV "identity"), (asciiV "if"), (asciiV "join"), (asciiV "keep"), (asciiV "late"), (asciiV "limit"), (asciiV "mode"), (asciiV "none"), (asciiV "not"), (asciiV "of"), (asciiV "on"), (asciiV "or"), (asciiV "peak"), (asciiV "prefix"), (asciiV "quantile"), (asciiV "running"), (asciiV "sum"), (asciiV "then"), (asciiV "total"), (asciiV "tree"), (asciiV "using"), (asciiV "where"), (asciiV "with")] 35 .unk)
def t0 : RTab := [(120, [(.row [(.int .i64 1)] 1 .full), (.int .i64 2)], (.bool false)),
  (120, [(.row [(.int .i64 2), (.int .i64 3), (.int .i64 4)] 3 .full), (.int .i64 2)], (.bool true)),
  (120, [(.row [(.int .i64 2), (.int .i64 3), (.int .i64 4)] 3 .full), (.int .i64 1)], (.bool false)),
  (18, [], a2),
  (114, [a2, (asciiV "colour")], (.bool false)),
  (120, [(.row [(.int .i64 1)] 1 .full), (.int .i64 1)], (.bool true)),
  (120, [(.row [(.int .i64 1)] 1 .full), (.int .i64 0)], (.bool false)),
  (120, [(.row [(.int .i64 1)] 1 .full), (.int .i64 5)], (.bool false)),
  (120, [(.row [(.int .i64 2), (.int .i64 3), (.int .i64 4)] 3 .full), (.int .i64 5)], (.bool false)),
  (35, [(asciiV "")], (.tup [.nilsl, (.agg [(.int .i64 0), (.int .i64 0)])])),
  (114, [a2, (asciiV "a")], (.bool false)),
  (120, [(.row [(.int .i64 1)] 1 .full), (.int .i64 3)], (.bool false)),
  (120, [(.row [(.int .i64 3)] 1 .full), (.int .i64 3)], (.bool true)),
  (120, [(.row [(.int .i64 2), (.int .i64 3), (.int .i64 4)] 3 .full), (.int .i64 0)], (.bool false)),
  (114, [a2, (asciiV "aaaaaaaaaaaaaaaaaaaaa")], (.bool false)),
  (35, [(.str (List.replicate 2001 32))], (.tup [.nilsl, (.agg [(.int .i64 4), (.int .i64 2000)])])),
  (120, [(.row [(.int .i64 3)] 1 .full), (.int .i64 1)], (.bool false)),
  (114, [a2, (asciiV "sum")], (.bool true)),
  (114, [a2, (asciiV "age")], (.bool false)),
  (114, [a2, (asciiV "from")], (.bool true)),
  (114, [a2, (asciiV "people")], (.bool false)),
  (120, [(.row [(.int .i64 3)] 1 .full), (.int .i64 2)], (.bool false)),
  (114, [a0, (asciiV "(")], (.bool true)),
  (114, [a1, (asciiV "+")], (.bool false)),
  (114, [a0, (asciiV "+")], (.bool false)),
  (114, [a1, (asciiV ")")], (.bool true)),
  (114, [a0, (asciiV ")")], (.bool false)),
  (114, [a1, (asciiV ",")], (.bool true)),
  (114, [a0, (asciiV ",")], (.bool false)),
  (114, [a1, (asciiV "/")], (.bool true)),
  (114, [a0, (asciiV "/")], (.bool true)),
  (114, [a1, (asciiV "..")], (.bool true)),
  (114, [a0, (asciiV "..")], (.bool true))]
theorem t0_ok : ∀ p ∈ t0, RowOK env0 p.1 p.2.1 p.2.2 := rows_of_Q env0_ok (S0 := []) rowsNil (k := 1000) (by kernel_rfl)
def s0 : RTab := t0
theorem s0_ok : ∀ p ∈ s0, RowOK env0 p.1 p.2.1 p.2.2 := t0_ok
def t1 : RTab := [(35, [(asciiV "colour = 'red'")], (.tup [(.row [(.int .i64 1), (asciiV "colour"), (.int .i64 0), (.int .i64 0), (.int .i64 5), (asciiV "="), (.int .i64 0), (.int .i64 7), (.int .i64 4), (asciiV "red"), (.int .i64 0), (.int .i64 9)] 3 .unk), (.agg [(.int .i64 0), (.int .i64 0)])])),
  (52, [(asciiV ""), .nilsl], (.bool true)),
  (35, [(asciiV "  ")], (.tup [.nilsl, (.agg [(.int .i64 0), (.int .i64 0)])])),
  (35, [(asciiV "a 007")], (.tup [.nilsl, (.agg [(.int .i64 11), (.int .i64 2)])])),
  (35, [(asciiV "'from'")], (.tup [.nilsl, (.agg [(.int .i64 11), (.int .i64 0)])])),
  (35, [(asciiV "a;b")], (.tup [.nilsl, (.agg [(.int .i64 11), (.int .i64 1)])]))]
theorem t1_ok : ∀ p ∈ t1, RowOK env0 p.1 p.2.1 p.2.2 := rows_of_Q env0_ok (S0 := s0) s0_ok (k := 1000) (by kernel_rfl)
def t2 : RTab := [(35, [(asciiV "1000000001")], (.tup [.nilsl, (.agg [(.int .i64 2), (.int .i64 0)])])),
  (35, [(asciiV "aaaaaaaaaaaaaaaaaaaaa")], (.tup [.nilsl, (.agg [(.int .i64 19), (.int .i64 0)])])),
  (55, [(.str (List.replicate 2001 32)), (.int .i64 4), (.int .i64 2000)], (.bool true))]
theorem t2_ok : ∀ p ∈ t2, RowOK env0 p.1 p.2.1 p.2.2 := rows_of_Q env0_ok (S0 := s0) s0_ok (k := 1000) (by kernel_rfl)
def t3 : RTab := [(35, [(asciiV "( a+1 ) , 3 / 2 , 1 .. 5")], (.tup [(.row [(.int .i64 5), (asciiV "("), (.int .i64 0), (.int .i64 0), (.int .i64 1), (asciiV "a"), (.int .i64 0), (.int .i64 2), (.int .i64 5), (asciiV "+"), (.int .i64 0), (.int .i64 3), (.int .i64 3), (asciiV "1"), (.int .i64 1), (.int .i64 4), (.int .i64 5), (asciiV ")"), (.int .i64 0), (.int .i64 6), (.int .i64 5), (asciiV ","), (.int .i64 0), (.int .i64 8), (.int .i64 3), (asciiV "3"), (.int .i64 3), (.int .i64 10), (.int .i64 5), (asciiV "/"), (.int .i64 0), (.int .i64 12), (.int .i64 3), (asciiV "2"), (.int .i64 2), (.int .i64 14), (.int .i64 5), (asciiV ","), (.int .i64 0), (.int .i64 16), (.int .i64 3), (asciiV "1"), (.int .i64 1), (.int .i64 18), (.int .i64 5), (asciiV ".."), (.int .i64 0), (.int .i64 20), (.int .i64 3), (asciiV "5"), (.int .i64 5), (.int .i64 23)] 13 .unk), (.agg [(.int .i64 0), (.int .i64 0)])]))]
theorem t3_ok : ∀ p ∈ t3, RowOK env0 p.1 p.2.1 p.2.2 := rows_of_Q env0_ok (S0 := s0) s0_ok (k := 1000) (by kernel_rfl)
def t4 : RTab := [(35, [(asciiV "sum age from people")], (.tup [(.row [(.int .i64 2), (asciiV "sum"), (.int .i64 0), (.int .i64 0), (.int .i64 1), (asciiV "age"), (.int .i64 0), (.int .i64 4), (.int .i64 2), (asciiV "from"), (.int .i64 0), (.int .i64 8), (.int .i64 1), (asciiV "people"), (.int .i64 0), (.int .i64 13)] 4 .unk), (.agg [(.int .i64 0), (.int .i64 0)])])),
  (35, [(asciiV "a<=10")], (.tup [(.row [(.int .i64 1), (asciiV "a"), (.int .i64 0), (.int .i64 0), (.int .i64 5), (asciiV "<="), (.int .i64 0), (.int .i64 1), (.int .i64 3), (asciiV "10"), (.int .i64 10), (.int .i64 3)] 3 .unk), (.agg [(.int .i64 0), (.int .i64 0)])])),
  (35, [(asciiV "1a")], (.tup [.nilsl, (.agg [(.int .i64 11), (.int .i64 1)])]))]
theorem t4_ok : ∀ p ∈ t4, RowOK env0 p.1 p.2.1 p.2.2 := rows_of_Q env0_ok (S0 := s0) s0_ok (k := 1000) (by kernel_rfl)
def s1 : RTab := s0 ++ (t1 ++ (t2 ++ (t3 ++ (t4))))
theorem s1_ok : ∀ p ∈ s1, RowOK env0 p.1 p.2.1 p.2.2 := rowsApp s0_ok (rowsApp t1_ok (rowsApp t2_ok (rowsApp t3_ok (t4_ok))))
def t5 : RTab := [(52, [(asciiV "colour = 'red'"), (.row [(.int .i64 1), (asciiV "colour"), (.int .i64 0), (.int .i64 0), (.int .i64 5), (asciiV "="), (.int .i64 0), (.int .i64 7), (.int .i64 4), (asciiV "red"), (.int .i64 0), (.int .i64 9)] 3 .full)], (.bool true)),
  (52, [(asciiV "  "), .nilsl], (.bool true)),
  (55, [(asciiV "a 007"), (.int .i64 11), (.int .i64 2)], (.bool true)),
  (55, [(asciiV "'from'"), (.int .i64 11), (.int .i64 0)], (.bool true)),
  (55, [(asciiV "a;b"), (.int .i64 11), (.int .i64 1)], (.bool true)),
  (55, [(asciiV "1000000001"), (.int .i64 2), (.int .i64 0)], (.bool true)),
  (55, [(asciiV "aaaaaaaaaaaaaaaaaaaaa"), (.int .i64 19), (.int .i64 0)], (.bool true)),
  (52, [(asciiV "sum age from people"), (.row [(.int .i64 2), (asciiV "sum"), (.int .i64 0), (.int .i64 0), (.int .i64 1), (asciiV "age"), (.int .i64 0), (.int .i64 4), (.int .i64 2), (asciiV "from"), (.int .i64 0), (.int .i64 8), (.int .i64 1), (asciiV "people"), (.int .i64 0), (.int .i64 13)] 4 .full)], (.bool true)),
  (52, [(asciiV "a<=10"), (.row [(.int .i64 1), (asciiV "a"), (.int .i64 0), (.int .i64 0), (.int .i64 5), (asciiV "<="), (.int .i64 0), (.int .i64 1), (.int .i64 3), (asciiV "10"), (.int .i64 10), (.int .i64 3)] 3 .full)], (.bool true)),
  (55, [(asciiV "1a"), (.int .i64 11), (.int .i64 1)], (.bool true))]
theorem t5_ok : ∀ p ∈ t5, RowOK env0 p.1 p.2.1 p.2.2 := rows_of_Q env0_ok (S0 := s1) s1_ok (k := 1000) (by kernel_rfl)
def s2 : RTab := s1 ++ (t5)
theorem s2_ok : ∀ p ∈ s2, RowOK env0 p.1 p.2.1 p.2.2 := rowsApp s1_ok (t5_ok)
/-- the setting of the law -/
noncomputable def env : Env := env0.tab s2
theorem env_ok : env.Ok := env0_ok.tab s2_ok
theorem env_gl {Γ : Ctx} (h : GOK env0 Γ) : GOK env Γ := GOK.tab h
theorem found12 : Go.Ab.Found env 12 [] := found_of_Q (k := 1000) (by kernel_rfl)
end Go.Proofs.YtbikmhpobflfeaaDoor.r12
