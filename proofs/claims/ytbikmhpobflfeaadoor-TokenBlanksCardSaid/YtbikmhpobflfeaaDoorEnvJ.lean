/- Proved here: the setting in which tokens are read and joined. Conditions: those of each theorem; no statement of the seat is proved in this text. -/
import Derived.Test.YtbikmhpobflfeaaDoorAbE
import Derived.Test.YtbikmhpobflfeaaDoorRows
namespace Go.Proofs.YtbikmhpobflfeaaDoor
open Go.Ab
def asciiV (s : String) : V := .str (s.toList.map fun c => UInt8.ofNat c.toNat)
def resV' : List V := ["above", "and", "batch", "between", "bits", "by", "consistent", "count", "else", "factor", "from", "histogram", "identity", "if", "join", "keep", "late", "limit", "mode", "none", "not", "of", "on", "or", "peak", "prefix", "quantile", "running", "sum", "then", "total", "tree", "using", "where", "with"].map asciiV
def glV (g : Nat) : Option V :=
  match g with
  | 0 => some (.rptr resV')
  | 1 => some (.rptr [.any])
  | 2 => some (.rptr [.any])
  | _ => none
def memN (f : Nat) : List Nat → Bool
  | [] => false
  | g :: r => match Nat.beq f g with
    | true => true
    | false => memN f r
def pureL : List Nat := [18, 48, 49, 50, 51, 17, 81, 85, 114, 77, 34, 35, 52, 55, 120, 134, 15, 16, 58, 86, 87, 116, 19, 36, 75, 100, 101, 102, 103, 104, 105, 106, 121, 78, 107, 108, 123, 135, 136, 73, 37, 12, 38, 46, 56, 57, 53, 54]
def hook1 (f : FuncId) : Option (List V → Option V) := match Nat.beq f 130 with | true => some sameV1 | false => none
/-- the setting in which tokens are joined -/
noncomputable def env : Env := { P := Tryd.prog, pure := fun f => memN f pureL, mutb := fun f _ => f == 82 || f == 83 || f == 136, gl := glV, hook := hook1, stab := fun f r => (f == 35 && r == 9) || (f == 75 && r == 28) || (f == 56 && r == 6) }
set_option maxRecDepth 100000
theorem gl_cases {g : Nat} {v : V} (h : glV g = some v) : (g = 0 ∧ v = .rptr resV') ∨ (g = 1 ∧ v = .rptr [.any]) ∨ (g = 2 ∧ v = .rptr [.any]) := by
  unfold glV at h
  split at h
  · simp at h; exact .inl ⟨rfl, h.symm⟩
  · simp at h; exact .inr (.inl ⟨rfl, h.symm⟩)
  · simp at h; exact .inr (.inr ⟨rfl, h.symm⟩)
  · simp at h
theorem env_ok : env.Ok :=
  { mixed := by kernel_rfl
    glc := fun g v h => by
      rcases gl_cases h with ⟨_, rfl⟩ | ⟨_, rfl⟩ | ⟨_, rfl⟩ <;> kernel_rfl
    hook := fun f g h => by
      simp only [env, hook1] at h
      split at h
      · rename_i hf
        have e := Nat.eq_of_beq_eq_true hf
        subst e
        simp only [Option.some.injEq] at h
        subst h
        exact sameV1_ok (E := env) (fn := Tryd.f130) Tryd.func130 (by kernel_rfl) (by kernel_rfl) (by kernel_rfl) rfl
      · simp at h }
theorem env_gl {W : World} {l : List (String × DataW Unit)} (h : laidMetH Tryd.prog l W) (hp : (l.all fun x => x.2.handleName?.isNone) = true) (m0 : ("privhouse/schema.reserved", Rows.laid_privhouse_schema_reserved) ∈ l)
    (m1 : ("strconv.ErrSyntax", Rows.laid_strconv_ErrSyntax) ∈ l) (m2 : ("strconv.ErrRange", Rows.laid_strconv_ErrRange) ∈ l) : GOK env (Ctx.top W) := by
  intro g v hv
  rcases gl_cases hv with ⟨rfl, rfl⟩ | ⟨rfl, rfl⟩ | ⟨rfl, rfl⟩
  · exact global_rel (k := 5) h hp m0 (g := 0) (t := 72) (by kernel_rfl) (by kernel_rfl) (by kernel_rfl)
  · exact global_rel (k := 5) h hp m1 (g := 1) (t := 100) (by kernel_rfl) (by kernel_rfl) (by kernel_rfl)
  · exact global_rel (k := 5) h hp m2 (g := 2) (t := 100) (by kernel_rfl) (by kernel_rfl) (by kernel_rfl)
end Go.Proofs.YtbikmhpobflfeaaDoor
