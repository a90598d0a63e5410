/- Proved here: the setting in which copies may be turned. Conditions: those of each theorem; no statement of the seat is proved in this text. -/
import Derived.Test.YtbikmhpobflfeaaDoorEnvS
namespace Go.Proofs.YtbikmhpobflfeaaDoor
open Go.Ab
set_option maxRecDepth 100000
open Classical in
noncomputable def hookC (f : FuncId) (args : List V) : Option V := if h : ∃ v, ∀ σ, callFn env (ev env) f args σ = some (v, σ) then some (Classical.choose h) else none
theorem hookC_eq {f : FuncId} {args : List V} {v : V} (h : ∀ σ, callFn env (ev env) f args σ = some (v, σ)) : hookC f args = some v := by
  unfold hookC
  have he : ∃ v, ∀ σ, callFn env (ev env) f args σ = some (v, σ) := ⟨v, h⟩
  rw [dif_pos he]
  have h1 := Classical.choose_spec he S.empty
  rw [h] at h1
  simp only [Option.some.injEq, Prod.mk.injEq, and_true] at h1
  rw [← h1]
namespace C
def pureC : List Nat := [70, 69, 68, 33]
def hookL : List Nat := [20, 21, 22, 25]
def mutC (f r : Nat) : Bool := (f == 62 && r == 3) || (f == 59 && r == 3)
def stabC (f r : Nat) : Bool := (f == 26 && r == 5) || (f == 6 && r == 3)
def memL (f : Nat) : List Nat → Bool
  | [] => false
  | g :: r => match Nat.beq f g with
    | true => true
    | false => memL f r
noncomputable def env : Env := { P := Tryd.prog, pure := fun f => memL f pureC, mutb := mutC, gl := glV, hook := fun f => match memL f hookL with | true => some (hookC f) | false => none, stab := stabC }
theorem hook_ok : ∀ f g, env.hook f = some g → ∀ args v, g args = some v → ∀ Γ σ w xs, WRel Γ σ w → GOK env Γ → LRel Γ args xs → ∃ Γ' w' y, Moved Γ Γ' σ w w' ∧ VRel Γ' v y ∧ CallsV env.P f xs w y w' := by
  intro f g h
  simp only [env] at h
  split at h
  · simp only [Option.some.injEq] at h
    subst h
    intro args v hv Γ σ w xs hw hg hx
    unfold hookC at hv
    split at hv
    · rename_i hh
      simp only [Option.some.injEq] at hv
      subst hv
      exact callFn_sound YtbikmhpobflfeaaDoor.env_ok (fun t r h => ev_sound YtbikmhpobflfeaaDoor.env_ok h) (Classical.choose_spec hh σ) hw hg hx
    · simp at hv
  · simp at h
theorem env_ok : env.Ok := ⟨by kernel_rfl, YtbikmhpobflfeaaDoor.env_ok.glc, hook_ok⟩
theorem env_gl {W : World} {l : List (String × DataW Unit)} (h : laidMetH Tryd.prog l W) (hp : (l.all fun x => x.2.handleName?.isNone) = true) (m0 : ("privhouse/schema.reserved", Rows.laid_privhouse_schema_reserved) ∈ l)
    (m3 : ("internal/strconv.uint64pow10", Rows.laid_internal_strconv_uint64pow10) ∈ l) : GOK env (Ctx.top W) := YtbikmhpobflfeaaDoor.env_gl h hp m0 m3
theorem call_of {f : FuncId} {args : List V} {v : V} (hf : env.hook f = some (hookC f)) (h : ∀ σ, callFn YtbikmhpobflfeaaDoor.env (ev YtbikmhpobflfeaaDoor.env) f args σ = some (v, σ)) (rec : Task → Option Res) (σ : S) : callFn env rec f args σ = some (v, σ) := by
  unfold callFn
  rw [hf]
  simp only [hookC_eq h, Option.map_some]
theorem hk20 : env.hook 20 = some (hookC 20) := rfl
theorem hk21 : env.hook 21 = some (hookC 21) := rfl
theorem hk22 : env.hook 22 = some (hookC 22) := rfl
theorem hk25 : env.hook 25 = some (hookC 25) := rfl
end C
end Go.Proofs.YtbikmhpobflfeaaDoor
