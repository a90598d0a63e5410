/- Proved here: the setting in which expressions are checked, and that the laws are awake. Conditions: those of each theorem; no statement of the seat is proved in this text. -/
import Derived.Test.YtcjapamldllleaaGreatDoorAbE
import Derived.Test.YtcjapamldllleaaGreatDoorRows
namespace Go.Proofs.YtcjapamldllleaaGreatDoor
open Go.Ab
set_option linter.unusedVariables false
def asciiV (s : String) : V := .str (s.toList.map fun c => UInt8.ofNat c.toNat)
def resV' : List V := ["above", "and", "batch", "between", "bits", "by", "consistent", "count", "else", "factor", "from", "histogram", "identity", "if", "join", "keep", "late", "limit", "mode", "none", "not", "of", "on", "or", "peak", "prefix", "quantile", "running", "sum", "then", "total", "tree", "using", "where", "with"].map asciiV
def pow10V : List V := [1, 10, 100, 1000, 10000, 100000, 1000000, 10000000, 100000000, 1000000000, 10000000000, 100000000000, 1000000000000, 10000000000000, 100000000000000, 1000000000000000, 10000000000000000, 100000000000000000, 1000000000000000000, 10000000000000000000].map fun n => V.int .u64 n
def glV (g : Nat) : Option V :=
  match g with
  | 0 => some (.rptr resV')
  | 6 => some (.rptr pow10V)
  | _ => none
def memN (f : Nat) : List Nat → Bool
  | [] => false
  | g :: r => match Nat.beq f g with
    | true => true
    | false => memN f r
def pureL : List Nat := [5, 6, 7, 8, 21, 22, 26, 27, 35, 36, 37, 38, 42, 60, 61, 62, 68, 72, 76, 84, 89, 103, 106, 117, 118, 119, 120, 121, 139, 140]
def mutL : List Nat := [24, 101, 112, 111, 133, 134, 135]
def hook0 (f : FuncId) : Option (List V → Option V) := match Nat.beq f 156 with | true => some idxV | false => none
noncomputable def env0 : Env := { P := Tryz.prog, pure := fun f => memN f pureL, mutb := fun f _ => memN f mutL, gl := glV, hook := hook0, rowB := true }
set_option maxRecDepth 1000000
theorem gl_cases {g : Nat} {v : V} (h : glV g = some v) : (g = 0 ∧ v = .rptr resV') ∨ (g = 6 ∧ v = .rptr pow10V) := by
  unfold glV at h
  split at h
  · simp at h; exact .inl ⟨rfl, h.symm⟩
  · simp at h; exact .inr ⟨rfl, h.symm⟩
  · simp at h
theorem glc_ok (g : Nat) (v : V) (h : glV g = some v) : v.closed = true := by
  rcases gl_cases h with ⟨_, rfl⟩ | ⟨_, rfl⟩
  · kernel_rfl
  · kernel_rfl
theorem env0_ok : env0.Ok :=
  { mixed := by kernel_rfl
    glc := glc_ok
    hook := fun f g h => by
      simp only [env0, hook0] at h
      split at h
      · rename_i hf
        have e := Nat.eq_of_beq_eq_true hf
        subst e
        simp only [Option.some.injEq] at h
        subst h
        exact idxV_ok (E := env0) (fn := Tryz.f156) Tryz.func156 (by kernel_rfl) (by kernel_rfl) (by kernel_rfl) rfl
      · simp at h }
theorem awake_row : RowOK env0 6 [] (.bool true) := rowOK_of_Q env0_ok rfl (k := 80) (by kernel_rfl)
def hookA : List V → Option V
  | [] => some (.bool true)
  | _ => none
noncomputable def env : Env := { P := Tryz.prog, pure := fun f => memN f pureL, mutb := fun f _ => f == 24, gl := glV, hook := fun f => match Nat.beq f 6 with | true => some hookA | false => none }
theorem env_ok : env.Ok :=
  { mixed := by kernel_rfl
    glc := glc_ok
    hook := fun f g h => by
      simp only [env] at h
      split at h
      · rename_i hf
        have e := Nat.eq_of_beq_eq_true hf
        subst e
        simp only [Option.some.injEq] at h
        subst h
        intro args v hv
        unfold hookA at hv
        split at hv
        · simp only [Option.some.injEq] at hv
          subst hv
          exact awake_row
        · simp at hv
      · simp at h }
theorem env_gl {W : World} {l : List (String × DataW Unit)} (h : laidMetH Tryz.prog l W) (hp : (l.all fun x => x.2.handleName?.isNone) = true) (m0 : ("privhouse/schema.reserved", Rows.laid_privhouse_schema_reserved) ∈ l)
    (m1 : ("internal/strconv.uint64pow10", Rows.laid_internal_strconv_uint64pow10) ∈ l) : GOK env (Ctx.top W) := by
  intro g v hv
  rcases gl_cases hv with ⟨rfl, rfl⟩ | ⟨rfl, rfl⟩
  · exact global_rel (k := 5) h hp m0 (g := 0) (t := 143) (by kernel_rfl) (by kernel_rfl) (by kernel_rfl)
  · exact global_rel (k := 5) h hp m1 (g := 6) (t := 221) (by kernel_rfl) (by kernel_rfl) (by kernel_rfl)
end Go.Proofs.YtcjapamldllleaaGreatDoor
