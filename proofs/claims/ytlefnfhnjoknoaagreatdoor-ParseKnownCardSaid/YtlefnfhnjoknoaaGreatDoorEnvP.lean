/- Proved here: the setting of the rows of ParseKnown, and that it is sound -/
import Derived.Test.YtlefnfhnjoknoaaGreatDoorAbD
import Derived.Test.YtlefnfhnjoknoaaGreatDoorRows
import Derived.Test.YtlefnfhnjoknoaaGreatDoorProg
namespace Go.Proofs.YtlefnfhnjoknoaaGreatDoor
open Go.Ab
set_option linter.unusedVariables false
def asciiV (s : String) : V := .str (s.toList.map fun c => UInt8.ofNat c.toNat)
def resV' : List V := ["above", "and", "batch", "between", "bits", "by", "consistent", "count", "else", "factor", "from", "histogram", "identity", "if", "join", "keep", "late", "limit", "mode", "none", "not", "of", "on", "or", "peak", "prefix", "quantile", "running", "sum", "then", "total", "tree", "using", "where", "with"].map asciiV
def pow10V : List V := [1, 10, 100, 1000, 10000, 100000, 1000000, 10000000, 100000000, 1000000000, 10000000000, 100000000000, 1000000000000, 10000000000000, 100000000000000, 1000000000000000, 10000000000000000, 100000000000000000, 1000000000000000000, 10000000000000000000].map fun n => V.int .u64 n
def glV (g : Nat) : Option V :=
  match g with
  | 0 => some (.rptr resV')
  | 1 => some (.rptr pow10V)
  | _ => none
def memN (f : Nat) : List Nat → Bool
  | [] => false
  | g :: r => match Nat.beq f g with
    | true => true
    | false => memN f r
def pureL : List Nat := [32, 33, 34, 113, 129, 168, 207, 214, 215]
def mutL : List Nat := [40, 62, 64, 97, 104, 109, 138, 139, 140, 192, 195, 196, 197, 202, 203, 225, 227, 229, 230, 231, 252, 253, 254, 258]
def panL : List Nat := [162, 221, 219, 163, 164, 187, 222, 218, 186, 244, 160, 183, 120, 119, 159, 117, 66]
def hook0 (f : FuncId) : Option (List V → Option V) := match Nat.beq f 305 with | true => some idxV | false => match Nat.beq f 304 with | true => some sameV1 | false => none
/-- the setting of the rows -/
noncomputable def env0 : Env := { P := Tryz.prog, pure := fun f => memN f pureL, mutb := fun f _ => memN f mutL, gl := glV, hook := hook0, rowB := true, pan := fun f => memN f panL }
set_option maxRecDepth 100000
theorem gl_cases {g : Nat} {v : V} (h : glV g = some v) : (g = 0 ∧ v = .rptr resV') ∨ (g = 1 ∧ v = .rptr pow10V) := by
  unfold glV at h
  split at h
  · simp at h; exact .inl ⟨rfl, h.symm⟩
  · simp at h; exact .inr ⟨rfl, h.symm⟩
  · simp at h
theorem env0_ok : env0.Ok :=
  { mixed := by kernel_rfl
    glc := fun g v h => by
      rcases gl_cases h with ⟨_, rfl⟩ | ⟨_, rfl⟩
      · kernel_rfl
      · kernel_rfl
    hook := fun f g h => by
      simp only [env0, hook0] at h
      split at h
      · rename_i hf
        have e := Nat.eq_of_beq_eq_true hf
        subst e
        simp only [Option.some.injEq] at h
        subst h
        exact idxV_ok (E := env0) (fn := Tryz.f305) Tryz.func305 (by kernel_rfl) (by kernel_rfl) (by kernel_rfl) rfl
      · split at h
        · rename_i hf
          have e := Nat.eq_of_beq_eq_true hf
          subst e
          simp only [Option.some.injEq] at h
          subst h
          exact sameV1_ok (E := env0) (fn := Tryz.f304) Tryz.func304 (by kernel_rfl) (by kernel_rfl) (by kernel_rfl) rfl
        · simp at h }
theorem gl_ok {W : World} {l : List (String × DataW Unit)} (h : laidMetH Tryz.prog l W) (hp : (l.all fun x => x.2.handleName?.isNone) = true) (m0 : ("privhouse/schema.reserved", Rows.laid_privhouse_schema_reserved) ∈ l)
    (m1 : ("internal/strconv.uint64pow10", Rows.laid_internal_strconv_uint64pow10) ∈ l) : GOK env0 (Ctx.top W) := by
  intro g v hv
  rcases gl_cases hv with ⟨rfl, rfl⟩ | ⟨rfl, rfl⟩
  · exact global_rel (k := 5) h hp m0 (g := 0) (t := 276) (by kernel_rfl) (by kernel_rfl) (by kernel_rfl)
  · exact global_rel (k := 5) h hp m1 (g := 1) (t := 313) (by kernel_rfl) (by kernel_rfl) (by kernel_rfl)
end Go.Proofs.YtlefnfhnjoknoaaGreatDoor
