/- Proved here: the setting in which expressions are computed. Conditions: those of each theorem; no statement of the seat is proved in this text. -/
import Derived.Test.YtcjapamldllleaaDoorAbE
import Derived.Test.YtcjapamldllleaaDoorRows
namespace Go.Proofs.YtcjapamldllleaaDoor
open Go.Ab
def asciiV (s : String) : V := .str (s.toList.map fun c => UInt8.ofNat c.toNat)
def resV' : List V := ["above", "and", "batch", "between", "bits", "by", "consistent", "count", "else", "factor", "from", "histogram", "identity", "if", "join", "keep", "late", "limit", "mode", "none", "not", "of", "on", "or", "peak", "prefix", "quantile", "running", "sum", "then", "total", "tree", "using", "where", "with"].map asciiV
def glV (g : Nat) : Option V :=
  match g with
  | 0 => some (.rptr resV')
  | _ => none
def memN (f : Nat) : List Nat → Bool
  | [] => false
  | g :: r => match Nat.beq f g with
    | true => true
    | false => memN f r
def pureL : List Nat := [26, 51, 73, 77, 78, 89, 90, 91, 92, 95, 96, 98, 102, 103, 104, 105, 106, 107, 108, 109, 8, 9, 10, 11, 12, 13, 14, 15, 16, 17, 18, 32, 33, 34, 35, 36, 37, 38, 39, 40, 48, 50, 52, 53, 54, 56, 57, 58, 59, 61, 62, 63, 64, 67, 68, 75, 76, 79, 80, 81, 82, 83, 84, 85, 86, 87, 88, 93, 94, 99, 125, 126, 127, 128, 129, 130, 132, 133, 134, 135, 136, 137, 138, 44]
noncomputable def env : Env := { P := Tryd.prog, pure := fun f => memN f pureL, mutb := fun f _ => f == 34 || f == 38 || f == 39 || f == 40 || f == 70, gl := glV, hook := fun _ => none, stab := fun f r => (f == 34 && r == 7) || (f == 39 && r == 7) || (f == 39 && r == 13) || (f == 133 && r == 17) || (f == 133 && r == 19) || (f == 137 && r == 1) || (f == 138 && r == 1) || (f == 64 && r == 3) || (f == 64 && r == 5) || (f == 64 && r == 7) }
set_option maxRecDepth 100000
theorem gl_cases {g : Nat} {v : V} (h : glV g = some v) : g = 0 ∧ v = .rptr resV' := by
  unfold glV at h
  split at h
  · simp at h; exact ⟨rfl, h.symm⟩
  · simp at h
theorem env_ok : env.Ok := { mixed := by kernel_rfl, glc := fun g v h => by obtain ⟨_, rfl⟩ := gl_cases h; kernel_rfl, hook := fun f g h => by simp [env] at h }
theorem env_gl {W : World} {l : List (String × DataW Unit)} (h : laidMetH Tryd.prog l W) (hp : (l.all fun x => x.2.handleName?.isNone) = true) (m0 : ("privhouse/schema.reserved", Rows.laid_privhouse_schema_reserved) ∈ l) : GOK env (Ctx.top W) := by
  intro g v hv
  obtain ⟨rfl, rfl⟩ := gl_cases hv
  exact global_rel (k := 5) h hp m0 (g := 0) (t := 134) (by kernel_rfl) (by kernel_rfl) (by kernel_rfl)
end Go.Proofs.YtcjapamldllleaaDoor
