/- Proved here: the setting in which disks and journals are used. Conditions: those of each theorem; no statement of the seat is proved in this text. -/
import Derived.Test.YtncohjljeoknkaaDoorEnvB
namespace Go.Proofs.YtncohjljeoknkaaDoor.A
open Go.Ab
set_option linter.unusedVariables false
set_option linter.unusedSectionVars false
noncomputable def env : Env := { P := Tryd.prog, pure := fun f => f == 3 || f == 22, mutb := fun f r => f == 73 && r == 5 || f == 70 && r == 8 || f == 22 && r == 2 || f == 36 && r == 2 || f == 3 && (r == 4 || r == 6 || r == 7), gl := fun _ => none, hook := fun _ => none }
set_option maxRecDepth 100000
theorem env_ok : env.Ok := { mixed := by kernel_rfl, glc := fun g v h => by simp [env] at h, hook := fun f g h => by simp [env] at h }
theorem row22 : ∀ σ, callFn env (ev env) 22 [] σ = some (.bool true, σ) := row_of_F (k := 1000) rfl rfl rfl (by kernel_rfl)
theorem row3 : ∀ σ, callFn env (ev env) 3 [] σ = some (.bool true, σ) := row_of_F (k := 1000) rfl rfl rfl (by kernel_rfl)
end Go.Proofs.YtncohjljeoknkaaDoor.A
namespace Go.Proofs.YtncohjljeoknkaaDoor.A2
open Go.Ab
set_option linter.unusedVariables false
noncomputable def env : Env := { P := Tryd.prog, pure := fun f => f == 8 || f == 36, mutb := fun f r => true, gl := fun _ => none, hook := fun _ => none, pan := fun f => Nat.beq f 75 || Nat.beq f 87 }
set_option maxRecDepth 100000
theorem env_ok : env.Ok := { mixed := by kernel_rfl, glc := fun g v h => by simp [env] at h, hook := fun f g h => by simp [env] at h }
theorem row36 : ∀ σ, callFn env (ev env) 36 [] σ = some (.bool true, σ) := row_of_F (k := 1000) rfl rfl rfl (by kernel_rfl)
theorem row8 : ∀ σ, callFn env (ev env) 8 [] σ = some (.bool true, σ) := row_of_F (k := 1000) rfl rfl rfl (by kernel_rfl)
end Go.Proofs.YtncohjljeoknkaaDoor.A2
namespace Go.Proofs.YtncohjljeoknkaaDoor.D
open Go.Ab
set_option linter.unusedVariables false
noncomputable def env : Env := { P := Tryd.prog, pure := fun f => f == 23, mutb := fun f _ => f == 57 || f == 55 || f == 73 || f == 52 || f == 5 || f == 77, gl := fun _ => none, hook := fun f => if f = 3 then some (tabH [[]]) else if f = 22 then some (tabH [[]]) else if f = 8 then some (tabH [[]]) else if f = 36 then some (tabH [[]]) else none, hookS := fun f => if f = 50 then some bufW else none, stab := fun f r => f == 52 && r == 0 || f == 17 && r == 3 || f == 28 && r == 4 || f == 27 && r == 4 || f == 30 && r == 3 || f == 33 && r == 1 || f == 34 && r == 1 || f == 32 && r == 3 || f == 6 && r == 29 || f == 4 && r == 19 || f == 11 && (r == 22 || r == 28 || r == 37 || r == 39) || f == 37 && r == 6 || f == 41 && r == 9 || f == 47 && r == 7 || f == 67 && r == 5 || f == 68 && r == 9 || f == 75 && r == 12 || f == 80 && (r == 14 || r == 16), rowB := true }
set_option maxRecDepth 100000
theorem env_ok : env.Ok where
  mixed := by kernel_rfl
  glc := fun g v h => by simp [env] at h
  hook := by
    intro f g h args v hv Γ σ w xs hw hg hx
    have hgA : GOK A.env Γ := fun g v hv => by simp [A.env] at hv
    simp only [env] at h
    split at h
    · rename_i hf
      subst hf
      simp only [Option.some.injEq] at h
      subst h
      exact hook_table A.env_ok (fun p hp => by
        have e : p = [] := by simpa using hp
        subst e
        exact A.row3) args v hv Γ σ w xs hw hgA hx
    · split at h
      · rename_i hf
        subst hf
        simp only [Option.some.injEq] at h
        subst h
        exact hook_table A.env_ok (fun p hp => by
          have e : p = [] := by simpa using hp
          subst e
          exact A.row22) args v hv Γ σ w xs hw hgA hx
      · have hgA2 : GOK A2.env Γ := fun g v hv => by simp [A2.env] at hv
        split at h
        · rename_i hf
          subst hf
          simp only [Option.some.injEq] at h
          subst h
          exact hook_table A2.env_ok (fun p hp => by
            have e : p = [] := by simpa using hp
            subst e
            exact A2.row8) args v hv Γ σ w xs hw hgA2 hx
        · split at h
          · rename_i hf
            subst hf
            simp only [Option.some.injEq] at h
            subst h
            exact hook_table A2.env_ok (fun p hp => by
              have e : p = [] := by simpa using hp
              subst e
              exact A2.row36) args v hv Γ σ w xs hw hgA2 hx
          · simp at h
  hookS := by
    intro f g h args σ v σ' hv Γ w xs hw hg hx
    simp only [env] at h
    split at h
    · rename_i hf
      subst hf
      simp only [Option.some.injEq] at h
      subst h
      exact bufW_sound hv hw hx
    · simp at h
theorem env_gl {W : World} {l : List (String × DataW Unit)} (h : laidMetH Tryd.prog l W) (hp : (l.all fun x => x.2.handleName?.isNone) = true) : GOK env (Ctx.top W) := fun g v h => by simp [env] at h
end Go.Proofs.YtncohjljeoknkaaDoor.D
