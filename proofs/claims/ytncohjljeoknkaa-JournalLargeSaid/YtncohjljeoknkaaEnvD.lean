/- Proved here: the setting in which records are used. Conditions: those of each theorem; no statement of the seat is proved in this text. -/
import Derived.Test.YtncohjljeoknkaaEnvB
namespace Go.Proofs.Ytncohjljeoknkaa.A2
open Go.Ab
set_option linter.unusedVariables false
set_option linter.unusedSectionVars false
noncomputable def env : Env := { P := Try.prog, pure := fun f => f == 7, mutb := fun f r => true, gl := fun _ => none, hook := fun _ => none, pan := fun f => Nat.beq f 32 || Nat.beq f 35 }
set_option maxRecDepth 100000
theorem env_ok : env.Ok := { mixed := by kernel_rfl, glc := fun g v h => by simp [env] at h, hook := fun f g h => by simp [env] at h }
theorem row7 : ∀ σ, callFn env (ev env) 7 [] σ = some (.bool true, σ) := row_of_F (k := 1000) rfl rfl rfl (by kernel_rfl)
end Go.Proofs.Ytncohjljeoknkaa.A2
namespace Go.Proofs.Ytncohjljeoknkaa.D
open Go.Ab
set_option linter.unusedVariables false
noncomputable def env : Env := { P := Try.prog, pure := fun f => false, mutb := fun f _ => f == 18 || f == 29, gl := fun _ => none, hook := fun f => if f = 7 then some (tabH [[]]) else none, hookS := fun f => if f = 54 then some bufW else none, stab := fun f r => f == 13 && r == 6 || f == 9 && r == 9 || f == 32 && r == 12 || f == 28 && (r == 14 || r == 16) || f == 5 && r == 4, rowB := true }
set_option maxRecDepth 100000
theorem env_ok : env.Ok where
  mixed := by kernel_rfl
  glc := fun g v h => by simp [env] at h
  hook := by
    intro f g h args v hv Γ σ w xs hw hg hx
    have hgA2 : GOK A2.env Γ := fun g v hv => by simp [A2.env] at hv
    simp only [env] at h
    split at h
    · rename_i hf
      subst hf
      simp only [Option.some.injEq] at h
      subst h
      exact hook_table A2.env_ok (fun p hp => by
        have e : p = [] := by simpa using hp
        subst e
        exact A2.row7) args v hv Γ σ w xs hw hgA2 hx
    · simp at h
  hookS := by
    intro f g h args σ v σ' hv Γ w xs hw hg hx
    simp only [env] at h
    split at h
    · rename_i hf
      subst hf
      simp only [Option.some.injEq] at h
      subst h
      exact bufW_sound hv hw hx
    · simp at h
theorem env_gl (W : World) : GOK env (Ctx.top W) := fun g v h => by simp [env] at h
end Go.Proofs.Ytncohjljeoknkaa.D
