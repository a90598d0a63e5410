/- Proved here: the setting in which schemas are checked. Conditions: those of each theorem; no statement of the seat is proved in this text. -/
import Derived.Test.YtbikmhpobflfeaaDoorAbE
import Derived.Test.YtbikmhpobflfeaaDoorRows
namespace Go.Proofs.YtbikmhpobflfeaaDoor
open Go.Ab
def asciiV (s : String) : V := .str (s.toList.map fun c => UInt8.ofNat c.toNat)
def pow10V : List V := [1, 10, 100, 1000, 10000, 100000, 1000000, 10000000, 100000000, 1000000000, 10000000000, 100000000000, 1000000000000, 10000000000000, 100000000000000, 1000000000000000, 10000000000000000, 100000000000000000, 1000000000000000000, 10000000000000000000].map fun n => V.int .u64 n
def resV' : List V := ["above", "and", "batch", "between", "bits", "by", "consistent", "count", "else", "factor", "from", "histogram", "identity", "if", "join", "keep", "late", "limit", "mode", "none", "not", "of", "on", "or", "peak", "prefix", "quantile", "running", "sum", "then", "total", "tree", "using", "where", "with"].map asciiV
def glV (g : Nat) : Option V :=
  match g with
  | 0 => some (.rptr resV')
  | 3 => some (.rptr pow10V)
  | _ => none
def pureV (f : FuncId) : Bool := f == 15 || f == 16 || f == 17 || f == 18 || f == 19 || f == 20 || f == 21 || f == 22 || f == 24 || f == 25 || f == 26 || f == 28 || f == 30 || f == 32 || f == 33 || f == 61 || f == 96 || f == 23 || f == 27 || f == 29 || f == 31 || (38 ≤ f && f ≤ 45) || f == 58 || f == 59 || f == 76 || f == 78 || f == 79 || f == 86 || f == 87 || f == 107 || f == 109 || f == 116 || f == 119 || f == 133 || f == 95 || f == 131 || f == 132 || f == 142
noncomputable def env : Env := { P := Tryd.prog, pure := pureV, mutb := fun f r => f == 62 && r == 3, gl := glV, hook := fun _ => none, stab := fun f r => f == 25 && r == 6 }
set_option maxRecDepth 100000
theorem gl_cases {g : Nat} {v : V} (h : glV g = some v) : (g = 0 ∧ v = .rptr resV') ∨ (g = 3 ∧ v = .rptr pow10V) := by
  unfold glV at h
  split at h
  · left; simp at h; exact ⟨rfl, h.symm⟩
  · right; simp at h; exact ⟨rfl, h.symm⟩
  · simp at h
theorem env_ok : env.Ok := { mixed := by kernel_rfl, glc := fun g v h => by rcases gl_cases h with ⟨_, rfl⟩ | ⟨_, rfl⟩ <;> kernel_rfl, hook := fun f g h => by simp [env] at h }
theorem env_gl {W : World} {l : List (String × DataW Unit)} (h : laidMetH Tryd.prog l W) (hp : (l.all fun x => x.2.handleName?.isNone) = true) (m0 : ("privhouse/schema.reserved", Rows.laid_privhouse_schema_reserved) ∈ l)
    (m3 : ("internal/strconv.uint64pow10", Rows.laid_internal_strconv_uint64pow10) ∈ l) : GOK env (Ctx.top W) := by
  intro g v hv
  rcases gl_cases hv with ⟨rfl, rfl⟩ | ⟨rfl, rfl⟩
  · exact global_rel (k := 5) h hp m0 (g := 0) (t := 72) (by kernel_rfl) (by kernel_rfl) (by kernel_rfl)
  · exact global_rel (k := 5) h hp m3 (g := 3) (t := 173) (by kernel_rfl) (by kernel_rfl) (by kernel_rfl)
end Go.Proofs.YtbikmhpobflfeaaDoor
