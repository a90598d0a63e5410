/- Proved here: the runs of ParseKnown -/
import Derived.Test.YtlefnfhnjoknoaaGreatDoorR6c
namespace Go.Proofs.YtlefnfhnjoknoaaGreatDoor.r6
open Go.Ab
set_option linter.unusedVariables false
set_option maxRecDepth 100000
def t12 : RTab := [(32, [(asciiV "batch a 1..3, -2..2 using tree from t join u on a = b limit 2 with factor 2 bits 8"), (.agg [(.int .i64 10), .nilsl, (.int .i64 0), (.int .i64 0), (.int .i64 0), (.int .i64 0), (asciiV "a"), (.int .i64 0), (.row [(.int .i64 1), (.int .i64 3), (.int .i64 (-2)), (.int .i64 2)] 2 .full), (.int .i64 2), (.bool false), (asciiV "t"), (.int .i64 0), (asciiV "u"), (asciiV "a"), (asciiV "b"), (.int .i64 2), .nilsl, (asciiV "2"), (.int .i64 8)])], (.bool true))]
theorem t12_ok : ∀ p ∈ t12, RowOK env0 p.1 p.2.1 p.2.2 := rows_of_Q env0_ok (S0 := s1) s1_ok (k := 1000) (by kernel_rfl)
def t13 : RTab := [(32, [(asciiV "total if a = 1 then b else 2 between 0 and 9 by c from t with factor 2 bits 8"), (.agg [(.int .i64 4), (.row [(.int .i64 2), (.int .i64 0), (asciiV "a"), (.int .i64 1), (.int .i64 1), (asciiV ""), (.int .i64 9), (.int .i64 0), (asciiV ""), (.int .i64 2), (.int .i64 0), (asciiV "b"), (.int .i64 1), (.int .i64 2), (asciiV ""), (.int .i64 8), (.int .i64 0), (asciiV "")] 6 .full), (.int .i64 0), (.int .i64 9), (.int .i64 0), (.int .i64 0), (asciiV "c"), (.int .i64 0), .nilsl, (.int .i64 0), (.bool false), (asciiV "t"), (.int .i64 0), (asciiV ""), (asciiV ""), (asciiV ""), (.int .i64 0), .nilsl, (asciiV "2"), (.int .i64 8)])], (.bool true)),
  (33, [(asciiV "count"), (.int .i64 11), (.int .i64 5)], (.bool true))]
theorem t13_ok : ∀ p ∈ t13, RowOK env0 p.1 p.2.1 p.2.2 := rows_of_Q env0_ok (S0 := s1) s1_ok (k := 1000) (by kernel_rfl)
def t14 : RTab := [(33, [(asciiV "count from t with factor 2 bits 8 x"), (.int .i64 11), (.int .i64 34)], (.bool true)),
  (33, [(asciiV "count from t with factor 2/0 bits 8"), (.int .i64 6), (.int .i64 27)], (.bool true)),
  (33, [(asciiV "count from t where a + 1 = 'red' with factor 2 bits 8"), (.int .i64 11), (.int .i64 27)], (.bool true))]
theorem t14_ok : ∀ p ∈ t14, RowOK env0 p.1 p.2.1 p.2.2 := rows_of_Q env0_ok (S0 := s1) s1_ok (k := 1000) (by kernel_rfl)
def t15 : RTab := [(33, [(asciiV "peak a from t with factor 2 bits 8 consistent"), (.int .i64 11), (.int .i64 35)], (.bool true))]
theorem t15_ok : ∀ p ∈ t15, RowOK env0 p.1 p.2.1 p.2.2 := rows_of_Q env0_ok (S0 := s1) s1_ok (k := 1000) (by kernel_rfl)
def t16 : RTab := [(33, [(asciiV "count from t where [[[[[[[[[[[[[[[[[[[[[[[[[[[[[[[[[[[[[[[[[[[[[[[[[[["), (.int .i64 4), (.int .i64 69)], (.bool true))]
theorem t16_ok : ∀ p ∈ t16, RowOK env0 p.1 p.2.1 p.2.2 := row1_of_T env0_ok (S0 := s1) s1_ok (look1_ok c0) (k := 3000) (by kernel_rfl) (by kernel_rfl)
def t17 : RTab := [(32, [(asciiV "count from t with factor 2 bits 8"), (.agg [(.int .i64 1), .nilsl, (.int .i64 0), (.int .i64 0), (.int .i64 0), (.int .i64 0), (asciiV ""), (.int .i64 0), .nilsl, (.int .i64 0), (.bool false), (asciiV "t"), (.int .i64 0), (asciiV ""), (asciiV ""), (asciiV ""), (.int .i64 0), .nilsl, (asciiV "2"), (.int .i64 8)])], (.bool true))]
theorem t17_ok : ∀ p ∈ t17, RowOK env0 p.1 p.2.1 p.2.2 := rows_of_Q env0_ok (S0 := s1) s1_ok (k := 1000) (by kernel_rfl)
def t18 : RTab := [(32, [(asciiV "sum a - 1 * b between -3 and 4 from t keep 2 where not a < 3 or c = 'red' with factor 6/4 bits 8"), (.agg [(.int .i64 2), (.row [(.int .i64 2), (.int .i64 0), (asciiV "a"), (.int .i64 1), (.int .i64 1), (asciiV ""), (.int .i64 2), (.int .i64 0), (asciiV "b"), (.int .i64 6), (.int .i64 0), (asciiV ""), (.int .i64 5), (.int .i64 0), (asciiV "")] 5 .full), (.int .i64 (-3)), (.int .i64 4), (.int .i64 0), (.int .i64 0), (asciiV ""), (.int .i64 0), .nilsl, (.int .i64 0), (.bool false), (asciiV "t"), (.int .i64 2), (asciiV ""), (asciiV ""), (asciiV ""), (.int .i64 0), (.row [(.int .i64 2), (.int .i64 0), (asciiV "a"), (.int .i64 1), (.int .i64 3), (asciiV ""), (.int .i64 11), (.int .i64 0), (asciiV ""), (.int .i64 17), (.int .i64 0), (asciiV ""), (.int .i64 2), (.int .i64 0), (asciiV "c"), (.int .i64 3), (.int .i64 0), (asciiV "red"), (.int .i64 9), (.int .i64 0), (asciiV ""), (.int .i64 16), (.int .i64 0), (asciiV "")] 8 .full), (asciiV "3/2"), (.int .i64 8)])], (.bool true))]
theorem t18_ok : ∀ p ∈ t18, RowOK env0 p.1 p.2.1 p.2.2 := rows_of_Q env0_ok (S0 := s1) s1_ok (k := 1000) (by kernel_rfl)
def t19 : RTab := [(33, [(asciiV "count from t keep 0 with factor 2 bits 8"), (.int .i64 2), (.int .i64 18)], (.bool true))]
theorem t19_ok : ∀ p ∈ t19, RowOK env0 p.1 p.2.1 p.2.2 := rows_of_Q env0_ok (S0 := s1) s1_ok (k := 1000) (by kernel_rfl)
def s2 : RTab := s1 ++ (t12 ++ (t13 ++ (t14 ++ (t15 ++ (t16 ++ (t17 ++ (t18 ++ (t19))))))))
theorem s2_ok : ∀ p ∈ s2, RowOK env0 p.1 p.2.1 p.2.2 := rowsApp s1_ok (rowsApp t12_ok (rowsApp t13_ok (rowsApp t14_ok (rowsApp t15_ok (rowsApp t16_ok (rowsApp t17_ok (rowsApp t18_ok (t19_ok))))))))
/-- the setting of the law -/
noncomputable def env : Env := env0.tab s2
theorem env_ok : env.Ok := env0_ok.tab s2_ok
theorem env_gl {Γ : Ctx} (h : GOK env0 Γ) : GOK env Γ := GOK.tab h
theorem found6 : Go.Ab.Found env 6 [] := found_of_Q (k := 1000) (by kernel_rfl)
end Go.Proofs.YtlefnfhnjoknoaaGreatDoor.r6
