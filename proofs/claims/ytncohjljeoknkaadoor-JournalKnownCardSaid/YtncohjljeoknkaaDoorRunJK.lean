/- Proved here: the run of JournalKnown -/
import Derived.Test.YtncohjljeoknkaaDoorAbD
import Derived.Test.YtncohjljeoknkaaDoorRows
import Derived.Test.YtncohjljeoknkaaDoorProg
namespace Go.Proofs.YtncohjljeoknkaaDoor
open Go.Ab
set_option linter.unusedVariables false
noncomputable def env : Env := { P := Tryd.prog, pure := fun f => false, mutb := fun f r => true, gl := fun _ => none, hook := fun _ => none, pan := fun f => Nat.beq f 75 || Nat.beq f 87 }
set_option maxRecDepth 100000
theorem env_ok : env.Ok := { mixed := by kernel_rfl, glc := fun g v h => by simp [env] at h, hook := fun f g h => by simp [env] at h }
theorem env_gl {W : World} {l : List (String × DataW Unit)} (h : laidMetH Tryd.prog l W) (hp : (l.all fun x => x.2.handleName?.isNone) = true) : GOK env (Ctx.top W) := fun g v h => by simp [env] at h
theorem found8 : Go.Ab.Found env 8 [] := found_of_Q (k := 1000) (by kernel_rfl)
end Go.Proofs.YtncohjljeoknkaaDoor
