/- Proved here: the setting in which schemas are drawn, copied and turned. Conditions: those of each theorem; no statement of the seat is proved in this text. -/
import Derived.Test.YtbikmhpobflfeaaDoorEnvS
namespace Go.Proofs.YtbikmhpobflfeaaDoor
open Go.Ab
set_option maxHeartbeats 4000000
set_option maxRecDepth 100000
open Classical in
noncomputable def hookC (f : FuncId) (args : List V) : Option V := if h : ∃ v, ∀ σ, callFn env (ev env) f args σ = some (v, σ) then some (Classical.choose h) else none
theorem hookC_eq {f : FuncId} {args : List V} {v : V} (h : ∀ σ, callFn env (ev env) f args σ = some (v, σ)) : hookC f args = some v := by
  unfold hookC
  have he : ∃ v, ∀ σ, callFn env (ev env) f args σ = some (v, σ) := ⟨v, h⟩
  rw [dif_pos he]
  have h1 := Classical.choose_spec he S.empty
  rw [h] at h1
  simp only [Option.some.injEq, Prod.mk.injEq, and_true] at h1
  rw [← h1]
namespace C
def pureC : List Nat := [70, 69, 68, 33]
def hookL : List Nat := [20, 21, 22, 25]
def mutC (f r : Nat) : Bool := (f == 62 && r == 3) || (f == 59 && r == 3)
def stabC (f r : Nat) : Bool := (f == 26 && r == 5) || (f == 6 && r == 3)
def memL (f : Nat) : List Nat → Bool
  | [] => false
  | g :: r => match Nat.beq f g with
    | true => true
    | false => memL f r
noncomputable def env : Env := { P := Tryd.prog, pure := fun f => memL f pureC, mutb := mutC, gl := glV, hook := fun f => match memL f hookL with | true => some (hookC f) | false => none, stab := stabC }
theorem hook_ok : ∀ f g, env.hook f = some g → ∀ args v, g args = some v → ∀ Γ σ w xs, WRel Γ σ w → GOK env Γ → LRel Γ args xs → ∃ Γ' w' y, Moved Γ Γ' σ w w' ∧ VRel Γ' v y ∧ CallsV env.P f xs w y w' := by
  intro f g h
  simp only [env] at h
  split at h
  · simp only [Option.some.injEq] at h
    subst h
    intro args v hv Γ σ w xs hw hg hx
    unfold hookC at hv
    split at hv
    · rename_i hh
      simp only [Option.some.injEq] at hv
      subst hv
      exact callFn_sound YtbikmhpobflfeaaDoor.env_ok (fun t r h => ev_sound YtbikmhpobflfeaaDoor.env_ok h) (Classical.choose_spec hh σ) hw hg hx
    · simp at hv
  · simp at h
theorem env_ok : env.Ok := { mixed := by kernel_rfl, glc := YtbikmhpobflfeaaDoor.env_ok.glc, hook := hook_ok }
theorem env_gl {W : World} {l : List (String × DataW Unit)} (h : laidMetH Tryd.prog l W) (hp : (l.all fun x => x.2.handleName?.isNone) = true) (m0 : ("privhouse/schema.reserved", Rows.laid_privhouse_schema_reserved) ∈ l)
    (m3 : ("internal/strconv.uint64pow10", Rows.laid_internal_strconv_uint64pow10) ∈ l) : GOK env (Ctx.top W) := YtbikmhpobflfeaaDoor.env_gl h hp m0 m3
end C
end Go.Proofs.YtbikmhpobflfeaaDoor
namespace Go.Proofs.YtbikmhpobflfeaaDoor.R
open Go.Ab
def pureR (f : FuncId) : Bool := f == 8 || f == 15 || f == 18 || f == 23 || f == 27 || f == 29 || f == 31 || (38 ≤ f && f ≤ 45) || f == 58 || f == 59 || f == 76 || f == 78 || f == 79 || f == 86 || f == 87 || f == 107 || f == 109 || f == 116 || f == 119 || f == 133 || f == 95
noncomputable def env : Env := { P := Tryd.prog, pure := pureR, mutb := fun _ _ => false, gl := glV, hook := fun _ => none }
set_option maxHeartbeats 4000000
set_option maxRecDepth 100000
theorem env_ok : env.Ok := { mixed := by kernel_rfl, glc := fun g v h => by rcases gl_cases h with ⟨_, rfl⟩ | ⟨_, rfl⟩ <;> kernel_rfl, hook := fun f g h => by simp [env] at h }
theorem row8 : ∀ σ, callFn env (ev env) 8 [] σ = some (.bool true, σ) := row_of_F (k := 1000) rfl rfl rfl (by kernel_rfl)
end Go.Proofs.YtbikmhpobflfeaaDoor.R
namespace Go.Proofs.YtbikmhpobflfeaaDoor.F
open Go.Ab
set_option maxHeartbeats 4000000
set_option maxRecDepth 100000
set_option linter.unusedVariables false
set_option linter.unusedSectionVars false
noncomputable def hookN (f : FuncId) (args : List V) (σ : S) : Option (V × S) := match args.mapM (sealV σ.heap sealDepth) with
  | some args' => match hookC f args' with
    | some v => match v.gr with
      | true => some (v, σ)
      | false => none
    | none => none
  | none => none
theorem hookN_eq {f : FuncId} {args args' : List V} {σ : S} {v : V} (hs : args.mapM (sealV σ.heap sealDepth) = some args') (h : ∀ σ, callFn YtbikmhpobflfeaaDoor.env (ev YtbikmhpobflfeaaDoor.env) f args' σ = some (v, σ)) (hv : v.gr = true) : hookN f args σ = some (v, σ) := by
  unfold hookN
  simp only [hs, hookC_eq h, hv]
theorem hookC_call {f : FuncId} {args : List V} {v : V} (h : hookC f args = some v) : callFn YtbikmhpobflfeaaDoor.env (ev YtbikmhpobflfeaaDoor.env) f args S.empty = some (v, S.empty) := by
  unfold hookC at h
  split at h
  · rename_i hh
    simp only [Option.some.injEq] at h
    subst h
    exact Classical.choose_spec hh S.empty
  · simp at h
theorem hookN_sound {f : FuncId} {args : List V} {σ σ' : S} {v : V} (h : hookN f args σ = some (v, σ')) {Γ : Ctx} {w : World} {xs : Array Value} (hw : WRel Γ σ w) (hg : GOK YtbikmhpobflfeaaDoor.env Γ) (hx : LRel Γ args xs) : ∃ Γ' w' y, Moved Γ Γ' σ' w w' ∧ VRel Γ' v y ∧ CallsV Tryd.prog f xs w y w' := by
  unfold hookN at h
  split at h
  · rename_i args' hs
    split at h
    · rename_i v0 hc
      split at h
      · rename_i hv
        simp only [Option.some.injEq, Prod.mk.injEq] at h
        obtain ⟨rfl, rfl⟩ := h
        exact call_all YtbikmhpobflfeaaDoor.env_ok (hookC_call hc) hv hs hw hg hx
      · simp at h
    · simp at h
  · simp at h
def memL (f : Nat) : List Nat → Bool
  | [] => false
  | g :: r => match Nat.beq f g with
    | true => true
    | false => memL f r
def pureL : List Nat := [46, 59, 111, 113, 129]
def hookL : List Nat := [23, 27, 95]
def stabL (f r : Nat) : Bool := (f == 80 && r == 11) || (f == 110 && r == 7) || (f == 10 && r == 8) || (f == 10 && r == 11) || (f == 10 && r == 12)
noncomputable def env : Env := { P := Tryd.prog, pure := fun f => memL f pureL, mutb := fun f r => f == 62 && r == 3, gl := glV, hook := fun f => match Nat.beq f 8 with | true => some (tabH [[]]) | false => none, hookS := fun f => match memL f hookL with | true => some (hookN f) | false => none, rowB := true, stab := stabL }
theorem env_ok : env.Ok where
  mixed := by kernel_rfl
  glc := YtbikmhpobflfeaaDoor.env_ok.glc
  hook := by
    intro f g h args v hv Γ σ w xs hw hg hx
    simp only [env] at h
    split at h
    · rename_i hf
      have e := Nat.eq_of_beq_eq_true hf
      subst e
      simp only [Option.some.injEq] at h
      subst h
      exact hook_table R.env_ok (fun p hp => by
        have e : p = [] := by simpa using hp
        subst e
        exact R.row8) args v hv Γ σ w xs hw hg hx
    · simp at h
  hookS := by
    intro f g h args σ v σ' hv Γ w xs hw hg hx
    simp only [env] at h
    split at h
    · simp only [Option.some.injEq] at h
      subst h
      exact hookN_sound hv hw hg hx
    · simp at h
theorem env_gl {W : World} {l : List (String × DataW Unit)} (h : laidMetH Tryd.prog l W) (hp : (l.all fun x => x.2.handleName?.isNone) = true) (m0 : ("privhouse/schema.reserved", Rows.laid_privhouse_schema_reserved) ∈ l)
    (m3 : ("internal/strconv.uint64pow10", Rows.laid_internal_strconv_uint64pow10) ∈ l) : GOK env (Ctx.top W) := YtbikmhpobflfeaaDoor.env_gl h hp m0 m3
theorem call_N {f : FuncId} {args args' : List V} {σ : S} {v : V} (hs : args.mapM (sealV σ.heap sealDepth) = some args') (h : ∀ σ, callFn YtbikmhpobflfeaaDoor.env (ev YtbikmhpobflfeaaDoor.env) f args' σ = some (v, σ)) (hv : v.gr = true) (hk : env.hook f = none) (hp : env.pure f = false) (hS : env.hookS f = some (hookN f)) (rec : Task → Option Res) : callFn env rec f args σ = some (v, σ) := by
  unfold callFn
  have hz : env.frz f = false := rfl
  simp only [hk, hp, hz, hS, Bool.false_eq_true, if_false, hookN_eq hs h hv]
theorem known_call (σ : S) : callFn env (ev env) 8 [] σ = some (.bool true, σ) := rfl
end Go.Proofs.YtbikmhpobflfeaaDoor.F
namespace Go.Proofs.YtbikmhpobflfeaaDoor.I
open Go.Ab
set_option maxHeartbeats 4000000
set_option maxRecDepth 100000
set_option linter.unusedVariables false
set_option linter.unusedSectionVars false
def glI (g : Nat) : Option V :=
  match g with
  | 0 => some (.rptr resV')
  | 1 => some (.rptr [.any])
  | 2 => some (.rptr [.any])
  | 3 => some (.rptr pow10V)
  | _ => none
def memL (f : Nat) : List Nat → Bool
  | [] => false
  | g :: r => match Nat.beq f g with
    | true => true
    | false => memL f r
def pureL : List Nat := [43, 44, 45, 46, 76, 77, 63, 78, 79, 107, 108, 109, 123, 128, 135, 136, 138, 139, 143, 145, 146, 147]
noncomputable def env : Env := { P := Tryd.prog, pure := fun f => memL f pureL, mutb := fun f _ => f == 136, gl := glI, hook := fun f => match Nat.beq f 8 with | true => some (tabH [[]]) | false => none, hookS := fun f => match Nat.beq f 95 with | true => some (F.hookN 95) | false => none }
theorem gl_cases {g : Nat} {v : V} (h : glI g = some v) : (g = 0 ∧ v = .rptr resV') ∨ (g = 1 ∧ v = .rptr [.any]) ∨ (g = 2 ∧ v = .rptr [.any]) ∨ (g = 3 ∧ v = .rptr pow10V) := by
  unfold glI at h
  split at h
  · simp at h; exact .inl ⟨rfl, h.symm⟩
  · simp at h; exact .inr (.inl ⟨rfl, h.symm⟩)
  · simp at h; exact .inr (.inr (.inl ⟨rfl, h.symm⟩))
  · simp at h; exact .inr (.inr (.inr ⟨rfl, h.symm⟩))
  · simp at h
theorem gl_sub {g : Nat} {v : V} (h : glV g = some v) : glI g = some v := by
  rcases YtbikmhpobflfeaaDoor.gl_cases h with ⟨rfl, rfl⟩ | ⟨rfl, rfl⟩ <;> rfl
theorem gok_sub {Γ : Ctx} (h : GOK env Γ) : GOK YtbikmhpobflfeaaDoor.env Γ := fun g v hv => h g v (gl_sub hv)
theorem gok_R {Γ : Ctx} (h : GOK env Γ) : GOK R.env Γ := fun g v hv => h g v (gl_sub hv)
theorem env_ok : env.Ok where
  mixed := by kernel_rfl
  glc := fun g v h => by
    rcases gl_cases h with ⟨_, rfl⟩ | ⟨_, rfl⟩ | ⟨_, rfl⟩ | ⟨_, rfl⟩ <;> kernel_rfl
  hook := by
    intro f g h args v hv Γ σ w xs hw hg hx
    simp only [env] at h
    split at h
    · rename_i hf
      have e := Nat.eq_of_beq_eq_true hf
      subst e
      simp only [Option.some.injEq] at h
      subst h
      exact hook_table R.env_ok (fun p hp => by
        have e : p = [] := by simpa using hp
        subst e
        exact R.row8) args v hv Γ σ w xs hw (gok_R hg) hx
    · simp at h
  hookS := by
    intro f g h args σ v σ' hv Γ w xs hw hg hx
    simp only [env] at h
    split at h
    · rename_i hf
      have e := Nat.eq_of_beq_eq_true hf
      subst e
      simp only [Option.some.injEq] at h
      subst h
      exact F.hookN_sound hv hw (gok_sub hg) hx
    · simp at h
theorem env_gl {W : World} {l : List (String × DataW Unit)} (h : laidMetH Tryd.prog l W) (hp : (l.all fun x => x.2.handleName?.isNone) = true) (m0 : ("privhouse/schema.reserved", Rows.laid_privhouse_schema_reserved) ∈ l)
    (m1 : ("strconv.ErrSyntax", Rows.laid_strconv_ErrSyntax) ∈ l) (m2 : ("strconv.ErrRange", Rows.laid_strconv_ErrRange) ∈ l) (m3 : ("internal/strconv.uint64pow10", Rows.laid_internal_strconv_uint64pow10) ∈ l) : GOK env (Ctx.top W) := by
  intro g v hv
  rcases gl_cases hv with ⟨rfl, rfl⟩ | ⟨rfl, rfl⟩ | ⟨rfl, rfl⟩ | ⟨rfl, rfl⟩
  · exact global_rel (k := 5) h hp m0 (g := 0) (t := 72) (by kernel_rfl) (by kernel_rfl) (by kernel_rfl)
  · exact global_rel (k := 5) h hp m1 (g := 1) (t := 100) (by kernel_rfl) (by kernel_rfl) (by kernel_rfl)
  · exact global_rel (k := 5) h hp m2 (g := 2) (t := 100) (by kernel_rfl) (by kernel_rfl) (by kernel_rfl)
  · exact global_rel (k := 5) h hp m3 (g := 3) (t := 173) (by kernel_rfl) (by kernel_rfl) (by kernel_rfl)
theorem call_N {args args' : List V} {σ : S} {v : V} (hs : args.mapM (sealV σ.heap sealDepth) = some args') (h : ∀ σ, callFn YtbikmhpobflfeaaDoor.env (ev YtbikmhpobflfeaaDoor.env) 95 args' σ = some (v, σ)) (hv : v.gr = true) (rec : Task → Option Res) : callFn env rec 95 args σ = some (v, σ) := by
  unfold callFn
  have hk : env.hook 95 = none := rfl
  have hp : env.pure 95 = false := rfl
  have hz : env.frz 95 = false := rfl
  have hS : env.hookS 95 = some (F.hookN 95) := rfl
  simp only [hk, hp, hz, hS, Bool.false_eq_true, if_false, F.hookN_eq hs h hv]
theorem known_call (σ : S) : callFn env (ev env) 8 [] σ = some (.bool true, σ) := rfl
end Go.Proofs.YtbikmhpobflfeaaDoor.I
