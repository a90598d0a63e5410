/- Proved here: the setting of the runs. Conditions: none. -/
import Derived.Test.YtlefnfhnjoknoaaDoorAbD
import Derived.Test.YtlefnfhnjoknoaaDoorRows
namespace Go.Proofs.YtlefnfhnjoknoaaDoor
open Go.Ab
set_option linter.unusedVariables false
def asciiV (s : String) : V := .str (s.toList.map fun c => UInt8.ofNat c.toNat)
def resV' : List V := ["above", "and", "batch", "between", "bits", "by", "consistent", "count", "else", "factor", "from", "histogram", "identity", "if", "join", "keep", "late", "limit", "mode", "none", "not", "of", "on", "or", "peak", "prefix", "quantile", "running", "sum", "then", "total", "tree", "using", "where", "with"].map asciiV
def glV (g : Nat) : Option V :=
  match g with
  | 0 => some (.rptr resV')
  | _ => none
/-- the setting of the tables' rows -/
noncomputable def env0 : Env := { P := Tryd.prog, pure := fun f => f == 5 || f == 8, mutb := fun f _ => !(f == 3 || f == 9), gl := glV, hook := fun _ => none }
set_option maxRecDepth 100000
theorem gl_cases {g : Nat} {v : V} (h : glV g = some v) : g = 0 ∧ v = .rptr resV' := by
  unfold glV at h
  split at h
  · simp at h; exact ⟨rfl, h.symm⟩
  · simp at h
theorem env0_ok : env0.Ok := { mixed := by kernel_rfl, glc := fun g v h => by obtain ⟨_, rfl⟩ := gl_cases h; kernel_rfl, hook := fun f g h => by simp [env0] at h }
theorem gl_ok {W : World} {l : List (String × DataW Unit)} (h : laidMetH Tryd.prog l W) (hp : (l.all fun x => x.2.handleName?.isNone) = true) (m0 : ("privhouse/schema.reserved", Rows.laid_privhouse_schema_reserved) ∈ l) : GOK env0 (Ctx.top W) := by
  intro g v hv
  obtain ⟨rfl, rfl⟩ := gl_cases hv
  exact global_rel (k := 5) h hp m0 (g := 0) (t := 95) (by kernel_rfl) (by kernel_rfl) (by kernel_rfl)
def nd (o n : Int) (c : String) : List V := [.int .i64 o, .int .i64 n, asciiV c]
def cl (c : String) : List V := nd 2 0 c
def op (o : Int) : List V := nd o 0 ""
def num (n : Int) : List V := nd 1 n ""
def rowN (ns : List (List V)) : V := .row ns.flatten ns.length .full
def sp (a b c : Int) (ns : List (List V)) : List V := [.int .i64 a, .int .i64 b, .int .i64 c, rowN ns]
def cn (a b c : Bool) (ns : List (List V)) : List V := [.bool a, .bool b, .bool c, rowN ns]
def lim15 : Int := 1000000000000000
def s1 := sp (-6) 3 (-2) [cl "a", cl "b", op 5]
def s2 := sp (-3) 2 (-2) [cl "a", op 7]
def s3 := sp (-2) 4 2 [cl "a", cl "b", op 11, cl "a", cl "b", op 8]
def s4 := sp 1 1 1 [cl "a", num 4, op 11, num 1, num 2, op 8]
def s5 := sp lim15 lim15 lim15 [num 1000000000, num 1000000000, op 6]
def s6 := sp (-2) 7 6 [cl "a", cl "b", op 4]
def s7 := sp (-8) 12 8 [cl "a", cl "b", op 6]
def c1 := cn false true false [cl "a", num 3, op 7, op 12]
def c2 := cn true true true [cl "c", nd 3 0 "green", op 9]
def c3 := cn false true false [cl "a", num 4, op 11, op 17]
def c4 := cn true false true [cl "a", num 4, op 11]
def c5 := cn true true false [cl "a", cl "b", op 9]
end Go.Proofs.YtlefnfhnjoknoaaDoor
