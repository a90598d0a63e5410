/- Proved here: another setting of the evaluator over this seat's program is in order: copies are memory that turns. Conditions: none. -/
import Derived.Test.YtkomkiejakcilaaRows
import Derived.Test.YtkomkiejakcilaaAbD
namespace Go.Proofs.Ytkomkiejakcilaa
open Go.Ab

def pureSet (f : FuncId) : Bool := (3 ≤ f && f ≤ 25 && f != 10 && f != 13) || f == 28 || f == 35 || f == 36
noncomputable def env : Env := { P := Try.prog, pure := pureSet, mutb := fun f r => f == 10 && r == 8 || f == 13 && r == 1, gl := fun _ => none, hook := fun _ => none, frz := fun f => f == 10, stab := fun f r => f == 26 && r == 2 }
theorem env_ok : env.Ok := { mixed := by kernel_rfl, glc := fun g v h => by simp [env] at h, hook := fun f g h => by simp [env] at h }
theorem env_gl (W : World) : GOK env (Ctx.top W) := fun g v h => by simp [env] at h
end Go.Proofs.Ytkomkiejakcilaa
