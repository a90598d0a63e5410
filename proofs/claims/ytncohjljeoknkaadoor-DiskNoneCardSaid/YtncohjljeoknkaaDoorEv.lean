/- Proved here: the evaluator's setting over this seat's program is in order. Conditions: none. -/
import Derived.Test.YtncohjljeoknkaaDoorRows
import Derived.Test.YtncohjljeoknkaaDoorAbD
namespace Go.Proofs.YtncohjljeoknkaaDoor
open Go.Ab
set_option linter.unusedVariables false
noncomputable def env : Env := { P := Tryd.prog, pure := fun f => f == 60 || f == 59, mutb := fun f r => f == 73 && r == 5 || f == 70 && r == 8 || f == 22 && r == 2 || f == 36 && r == 2 || f == 3 && (r == 4 || r == 6 || r == 7), gl := fun _ => none, hook := fun _ => none }
set_option maxRecDepth 100000
theorem env_ok : env.Ok := { mixed := by kernel_rfl, glc := fun g v h => by simp [env] at h, hook := fun f g h => by simp [env] at h }
theorem env_gl {W : World} {l : List (String × DataW Unit)} (h : laidMetH Tryd.prog l W) (hp : (l.all fun x => x.2.handleName?.isNone) = true) : GOK env (Ctx.top W) := fun g v h => by simp [env] at h
end Go.Proofs.YtncohjljeoknkaaDoor
