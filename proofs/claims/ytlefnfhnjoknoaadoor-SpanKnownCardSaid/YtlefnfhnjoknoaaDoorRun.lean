/- Proved here: that the law's run comes out true. Conditions: none. -/
import Derived.Test.YtlefnfhnjoknoaaDoorRa
import Derived.Test.YtlefnfhnjoknoaaDoorRb
import Derived.Test.YtlefnfhnjoknoaaDoorRc
namespace Go.Proofs.YtlefnfhnjoknoaaDoor
open Go.Ab
set_option maxRecDepth 100000
def tab5 : List (List V) := [s1, s2, s3, s4, s5, s6, s7]
def tab8 : List (List V) := [c1, c2, c3, c4, c5]
def hookV (f : FuncId) : Option (List V → Option V) := if f = 5 then some (tabH tab5) else if f = 8 then some (tabH tab8) else none
noncomputable def env : Env := { P := Tryd.prog, pure := fun f => f == 5 || f == 8, mutb := fun f _ => !(f == 3 || f == 9), gl := glV, hook := hookV }
theorem rows5 : ∀ p ∈ tab5, ∀ σ, callFn env0 (ev env0) 5 p σ = some (.bool true, σ) := by
  intro p hp
  simp only [tab5, List.mem_cons, List.not_mem_nil, or_false] at hp
  rcases hp with rfl | rfl | rfl | rfl | rfl | rfl | rfl
  · exact s1_row
  · exact s2_row
  · exact s3_row
  · exact s4_row
  · exact s5_row
  · exact s6_row
  · exact s7_row
theorem rows8 : ∀ p ∈ tab8, ∀ σ, callFn env0 (ev env0) 8 p σ = some (.bool true, σ) := by
  intro p hp
  simp only [tab8, List.mem_cons, List.not_mem_nil, or_false] at hp
  rcases hp with rfl | rfl | rfl | rfl | rfl
  · exact c1_row
  · exact c2_row
  · exact c3_row
  · exact c4_row
  · exact c5_row
theorem env_ok : env.Ok :=
  { mixed := env0_ok.mixed
    glc := env0_ok.glc
    hook := by
      intro f g h
      simp only [env, hookV] at h
      split at h
      · rename_i e; subst e
        simp only [Option.some.injEq] at h; subst h
        exact hook_table env0_ok rows5
      · split at h
        · rename_i e; subst e
          simp only [Option.some.injEq] at h; subst h
          exact hook_table env0_ok rows8
        · simp at h }
theorem env_gl {W : World} {l : List (String × DataW Unit)} (h : laidMetH Tryd.prog l W) (hp : (l.all fun x => x.2.handleName?.isNone) = true) (m0 : ("privhouse/schema.reserved", Rows.laid_privhouse_schema_reserved) ∈ l) : GOK env (Ctx.top W) := gl_ok h hp m0
theorem found3 : Go.Ab.Found env 3 [] := found_of_F (k := 1000) (by kernel_rfl)
end Go.Proofs.YtlefnfhnjoknoaaDoor
