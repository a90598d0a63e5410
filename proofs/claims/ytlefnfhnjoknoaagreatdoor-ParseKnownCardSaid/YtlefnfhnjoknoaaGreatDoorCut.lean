/- Proved here: that a run may look some of its calls up by the state they begin in. Conditions: those of each theorem -/
import Derived.Test.YtlefnfhnjoknoaaGreatDoorAbD
/- Runs that look up some of their calls by the state they begin in. Conditions: none. -/
namespace Go.Ab
set_option linter.unusedVariables false

def beqE : List (V × V × Nat) → List (V × V × Nat) → Bool
  | [], [] => true
  | (a, b, n) :: r, (c, d, m) :: s => match Nat.beq n m with
    | true => if V.beq a c then if V.beq b d then beqE r s else false else false
    | false => false
  | _, _ => false
theorem beqE_eq : ∀ {a b : List (V × V × Nat)}, beqE a b = true → a = b
  | [], [], _ => rfl
  | (a, b, n) :: r, (c, d, m) :: s, h => by
    simp only [beqE] at h
    split at h
    · rename_i hn
      split at h
      · rename_i h1
        split at h
        · rename_i h2
          rw [V.beq_eq _ _ h1, V.beq_eq _ _ h2, Nat.eq_of_beq_eq_true hn, beqE_eq h]
        · simp at h
      · simp at h
    · simp at h
  | [], _ :: _, h => by simp [beqE] at h
  | _ :: _, [], h => by simp [beqE] at h

def AObj.beqC : AObj → AObj → Bool
  | .cells a t, .cells b u => match Nat.beq t u with
    | true => V.beq.beqL a b
    | false => false
  | .map a t, .map b u => match Nat.beq t u with
    | true => beqE a b
    | false => false
  | .dead, .dead => true
  | _, _ => false
theorem AObj.beqC_eq {a b : AObj} (h : a.beqC b = true) : a = b := by
  unfold AObj.beqC at h
  split at h
  · split at h
    · rename_i hn; rw [Nat.eq_of_beq_eq_true hn, V.beq_eq.beqL_eq _ _ h]
    · simp at h
  · split at h
    · rename_i hn; rw [Nat.eq_of_beq_eq_true hn, beqE_eq h]
    · simp at h
  · rfl
  · simp at h

def beqH : List AObj → List AObj → Bool
  | [], [] => true
  | a :: r, b :: s => match a.beqC b with
    | true => beqH r s
    | false => false
  | _, _ => false
theorem beqH_eq : ∀ {a b : List AObj}, beqH a b = true → a = b
  | [], [], _ => rfl
  | a :: r, b :: s, h => by
    simp only [beqH] at h
    split at h
    · rename_i h1; rw [AObj.beqC_eq h1, beqH_eq h]
    · simp at h
  | [], _ :: _, h => by simp [beqH] at h
  | _ :: _, [], h => by simp [beqH] at h

/-- one call that is known -/
noncomputable def look1 (f : FuncId) (args : List V) (h : List AObj) (r : RF) (t : TaskF) : Option RF :=
  match t with
  | .call g as ⟨h', []⟩ => match Nat.beq g f with
    | true => if V.beq.beqL as args then if beqH h' h then some r else none else none
    | false => none
  | _ => none
theorem look1_ok {E : Env} {f : FuncId} {args : List V} {h : List AObj} {r : RF} (ok : OkF E (.call f args ⟨h, []⟩) r) : ∀ t q, look1 f args h r t = some q → OkF E t q := by
  intro t q hq
  unfold look1 at hq
  split at hq
  · split at hq
    · rename_i hn
      split at hq
      · rename_i h1
        split at hq
        · rename_i h2
          simp only [Option.some.injEq] at hq
          rw [← hq, Nat.eq_of_beq_eq_true hn, V.beq_eq.beqL_eq _ _ h1, beqH_eq h2]
          exact ok
        · simp at hq
      · simp at hq
    · simp at hq
  · simp at hq

noncomputable def lookNo (t : TaskF) : Option RF := none
theorem lookNo_ok {E : Env} : ∀ t q, lookNo t = some q → OkF E t q := fun t q h => by simp [lookNo] at h

noncomputable def runT (E : Env) (look : TaskF → Option RF) (k : Nat) : TaskF → Option RF :=
  Nat.rec (motive := fun _ => TaskF → Option RF) (fun _ => none) (fun _ ih t => Option.rec (motive := fun _ => Option RF) (stepQ E ih t) (fun r => some r) (look t)) k

theorem runT_sound {E : Env} {look : TaskF → Option RF} (hl : ∀ t r, look t = some r → OkF E t r) : ∀ (k : Nat) (t : TaskF) (r : RF), runT E look k t = some r → OkF E t r
  | 0, t, r, h => by exact absurd h (by simp [runT])
  | k + 1, t, r, h => by
    change Option.rec (motive := fun _ => Option RF) (stepQ E (runT E look k) t) (fun r => some r) (look t) = some r at h
    cases hk : look t with
    | some q =>
      rw [hk] at h
      simp only [Option.some.injEq] at h
      subst h
      exact hl _ _ hk
    | none =>
      rw [hk] at h
      simp only [stepQ_eq] at h
      exact stepF_sound (runT_sound hl k) t r h

def isPanT (v : V) (he : List AObj) (o : Option RF) : Bool :=
  match o with
  | some ⟨.pan u, .leaf, [], ⟨h', []⟩⟩ => if V.beq u v then beqH h' he else false
  | _ => false
theorem isPanT_eq {v : V} {he : List AObj} {o : Option RF} (h : isPanT v he o = true) : o = some ⟨.pan v, .leaf, [], ⟨he, []⟩⟩ := by
  unfold isPanT at h
  split at h
  · split at h
    · rename_i h1; rw [V.beq_eq _ _ h1, beqH_eq h]
    · simp at h
  · simp at h

/-- a call that ends in a panic -/
theorem pan_of_T {E : Env} {look : TaskF → Option RF} (hl : ∀ t r, look t = some r → OkF E t r) {k : Nat} {t : TaskF} {v : V} {he : List AObj} (h : isPanT v he (runT E look k t) = true) : OkF E t ⟨.pan v, .leaf, [], ⟨he, []⟩⟩ :=
  runT_sound hl k t _ (isPanT_eq h)

theorem rowOK_of_T {E : Env} (hE : E.Ok) {look : TaskF → Option RF} (hl : ∀ t r, look t = some r → OkF E t r) {k : Nat} {f : FuncId} {args : List V} {v : V} (hc : args.all V.closed = true)
    (h : isRowF v (runT E look k (.call f args S.empty)) = true) : RowOK E f args v := by
  intro Γ σ w xs hw hg hx
  unfold isRowF at h
  split at h
  · rename_i l u q st hr
    split at h
    · rename_i x hs
      have e := V.beq_eq x v h
      subst e
      have h1 : ev E (.call f args S.empty) = some ⟨.ret, [u], [], st⟩ := runT_sound hl k _ _ hr _ rfl
      have hx' : LRel (Γ.own w.heap.size) args xs := ⟨hx.len, fun i a b => VRel.of_closed (Γ := Γ) (Γ' := Γ.own w.heap.size) (fun _ _ _ h => h) (hx.rel i a b) (all_closed_mem hc i a)⟩
      obtain ⟨Γ', w', y, m, hy, h2, h3⟩ := (ev_sound hE h1).1 u rfl (Γ.own w.heap.size) w xs hw.own (hg.own hE) hx'
      have hpin : ∀ b i x, Γ.pin b i = some x → b < w.heap.size := fun b i x hp => lt_of_cell (hw.pins b i x hp)
      exact ⟨_, w', y, hw.after m.below, seal_rel hpin m _ hy hs, .inr ⟨h2, fun cs => let ⟨fr, a, _, b⟩ := h3 cs; ⟨fr, a, b⟩⟩⟩
    · simp at h
  · simp at h
theorem row1_of_T {E : Env} (hE : E.Ok) {S0 : RTab} (hS : ∀ p ∈ S0, RowOK E p.1 p.2.1 p.2.2) {look : TaskF → Option RF} (hl : ∀ t r, look t = some r → OkF (E.tab S0) t r) {k : Nat} {f : FuncId} {args : List V} {v : V} (hc : args.all V.closed = true)
    (h : isRowF v (runT (E.tab S0) look k (.call f args S.empty)) = true) : ∀ p ∈ ([(f, args, v)] : RTab), RowOK E p.1 p.2.1 p.2.2 :=
  rowsCons (rowOK_of_T (hE.tab hS) hl hc h).untab rowsNil
end Go.Ab
