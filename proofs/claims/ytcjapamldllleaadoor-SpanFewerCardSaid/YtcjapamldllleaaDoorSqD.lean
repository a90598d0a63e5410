/- Proved here: the values of expressions. Conditions: those of each theorem; no statement of the seat is proved in this text. -/
import Derived.Test.YtcjapamldllleaaDoorSqC
namespace Go.Proofs.YtcjapamldllleaaDoor
open Go.Ab
set_option maxHeartbeats 4000000
set_option maxRecDepth 100000
set_option linter.unusedSimpArgs false
set_option linter.unusedVariables false
end Go.Proofs.YtcjapamldllleaaDoor
namespace Go.Proofs.YtcjapamldllleaaDoor
open Go.Ab
set_option maxHeartbeats 4000000
set_option maxRecDepth 100000
set_option linter.unusedSimpArgs false
set_option linter.unusedVariables false
theorem at10 : env.P.funcs[10]? = some Tryd.f10 := by kernel_rfl
theorem at12 : env.P.funcs[12]? = some Tryd.f12 := by kernel_rfl
structure Fine (v : V) (l : List Nd) (cv : V) (cs : List Col) : Prop where
  hv : IsN v l
  hl : l.length ≤ 1000
  hc : IsC cv cs
  ok : OkC cs
  hcl : cs.length ≤ 1000
  hs : ∀ i, i < cs.length → Short (cs.getD i Col.none)
theorem Fine.hw {v : V} {l : List Nd} {cv : V} {cs : List Col} (h : Fine v l cv cs) (nm : List UInt8) : (colN cs nm).ws.length ≤ 1000 := by
  unfold colN
  rcases seekK_spec cs nm with e | ⟨j, e, hj, _⟩
  · rw [e, if_neg (by omega)]; simp [Col.none]
  · rw [e, if_pos (by omega), Int.toNat_natCast]; exact (h.hs j hj).2.1
structure FineI (xv : V) (xs : List Int) : Prop where
  hx : IsI xv xs
  hxl : xs.length ≤ 1000
  hin : ∀ x ∈ xs, In64 x
def Ready (l : List Nd) (cs : List Col) (xs : List Int) (cond : Bool) : Prop := Acc l cs cond ∧ Fits cs xs
open Classical in
noncomputable def valueV (l : List Nd) (cs : List Col) (xs : List Int) : Int := if Ready l cs xs false then runV l cs xs else 0
open Classical in
noncomputable def holdsV (l : List Nd) (cs : List Col) (xs : List Int) : Bool := if Ready l cs xs true then decide (runV l cs xs = 1) else false
theorem opT_mkI {E : Env} {m : Bool} {T : Tm} {σ : S} (t : TypeId) (x : Operand) {d : TypeDesc} (hu : E.P.underlying t = some d) (hd : ∀ a, d ≠ .interface a) : opT E m T σ (.makeInterface t x) = (evalT E T x).map fun v => (.iface t v, σ) := by
  unfold opT
  simp only [apure]
  cases evalT E T x with
  | none => rfl
  | some v =>
    simp only [Option.map_some, Option.bind_some]
    rw [hu]
    cases d <;> first | rfl | exact absurd rfl (hd _)
theorem mkI62 {m : Bool} {T : Tm} {σ : S} (x : Operand) : opT env m T σ (.makeInterface 62 x) = (evalT env T x).map fun v => (.iface 62 v, σ) := opT_mkI 62 x u62 (by intros; simp)
section
variable {v : V} {l : List Nd} {cv : V} {cs : List Col} {xv : V} {xs : List Int}
open Classical in
theorem value_call (F : Fine v l cv cs) (G : FineI xv xs) (σ : S) : callFn env (ev env) 10 [v, cv, xv] σ = some (.int .i64 (valueV l cs xs), σ) := by
  refine callFn_pure rfl rfl (by simp [V.closed, V.closed.closedL, closed_C F.hc F.ok, closed_N F.hv, closed_I G.hx]) at10 rfl (by simp [Tryd.f10]) (by simp [Tryd.f10]) (G_start ?_) σ
  have hA := accepted_call v l F.hv (Nat.le_trans F.hl (by omega)) cv cs F.hc F.ok F.hcl F.hs false
  have hF := fits_call cv cs F.hc F.ok F.hcl xv xs G.hx (Nat.le_trans G.hxl (by omega))
  unfold valueV Ready
  by_cases h1 : Acc l cs false
  · rw [decide_eq_true h1] at hA
    by_cases h2 : Fits cs xs
    · rw [if_pos ⟨h1, h2⟩]
      rw [decide_eq_true h2] at hF
      have hR := run_call v l F.hv F.hl cv cs F.hc F.ok F.hcl F.hw xv xs G.hx h2.1 G.hin false h1.1
      simp -implicitDefEqProofs only [Tryd.f10,Wa,Wb,Wc,Wd,We,Wf,Wg,Wh,Wi,Wj,Wk,Wl,Wm,Wn,Zo,Zp,evalT,Nat.reduceLT,Nat.reduceEqDiff,if_true,if_false,reduceIte,Ys,ofVal,ofCell,argT,resT,setT,Y0,Int.reduceEq,Int.reduceLT,Int.reduceLE,Int.reduceNeg,mb,Nat.reduceBEq,tys,stb,tysn,empty_mk,hA,hF,hR,mkI62]
      trace_state
      rfl
    · rw [if_neg (fun h => h2 h.2)]
      rw [decide_eq_false h2] at hF
      simp -implicitDefEqProofs only [Tryd.f10,Wa,Wb,Wc,Wd,We,Wf,Wg,Wh,Wi,Wj,Wk,Wl,Wm,Wn,Zo,Zp,evalT,Nat.reduceLT,Nat.reduceEqDiff,if_true,if_false,reduceIte,Ys,ofVal,ofCell,argT,resT,setT,Y0,Int.reduceEq,Int.reduceLT,Int.reduceLE,Int.reduceNeg,mb,Nat.reduceBEq,tys,stb,tysn,empty_mk,hA,hF]
      rfl
  · rw [if_neg (fun h => h1 h.1)]
    rw [decide_eq_false h1] at hA
    simp -implicitDefEqProofs only [Tryd.f10,Wa,Wb,Wc,Wd,We,Wf,Wg,Wh,Wi,Wj,Wk,Wl,Wm,Wn,Zo,Zp,evalT,Nat.reduceLT,Nat.reduceEqDiff,if_true,if_false,reduceIte,Ys,ofVal,ofCell,argT,resT,setT,Y0,Int.reduceEq,Int.reduceLT,Int.reduceLE,Int.reduceNeg,mb,Nat.reduceBEq,tys,stb,tysn,empty_mk,hA]
    rfl
open Classical in
theorem holds_call (F : Fine v l cv cs) (G : FineI xv xs) (σ : S) : callFn env (ev env) 12 [v, cv, xv] σ = some (.bool (holdsV l cs xs), σ) := by
  refine callFn_pure rfl rfl (by simp [V.closed, V.closed.closedL, closed_C F.hc F.ok, closed_N F.hv, closed_I G.hx]) at12 rfl (by simp [Tryd.f12]) (by simp [Tryd.f12]) (G_start ?_) σ
  have hA := accepted_call v l F.hv (Nat.le_trans F.hl (by omega)) cv cs F.hc F.ok F.hcl F.hs true
  have hF := fits_call cv cs F.hc F.ok F.hcl xv xs G.hx (Nat.le_trans G.hxl (by omega))
  unfold holdsV Ready
  by_cases h1 : Acc l cs true
  · rw [decide_eq_true h1] at hA
    by_cases h2 : Fits cs xs
    · rw [if_pos ⟨h1, h2⟩]
      rw [decide_eq_true h2] at hF
      have hR := run_call v l F.hv F.hl cv cs F.hc F.ok F.hcl F.hw xv xs G.hx h2.1 G.hin true h1.1
      by_cases h3 : runV l cs xs = 1
      · have g3 : ((runV l cs xs : Int) = 1) = True := eq_true h3
        simp -implicitDefEqProofs only [Tryd.f12,Wa,Wb,Wc,Wd,We,Wf,Wg,Wh,Wi,Wj,Wk,Wl,Wm,Wn,Zo,Zp,evalT,Nat.reduceLT,Nat.reduceEqDiff,if_true,if_false,reduceIte,Ys,ofVal,ofCell,argT,resT,setT,Y0,Int.reduceEq,Int.reduceLT,Int.reduceLE,Int.reduceNeg,mb,Nat.reduceBEq,tys,stb,tysn,empty_mk,hA,hF,hR,mkI62,g3]
        rfl
      · have g3 : ((runV l cs xs : Int) = 1) = False := eq_false h3
        simp -implicitDefEqProofs only [Tryd.f12,Wa,Wb,Wc,Wd,We,Wf,Wg,Wh,Wi,Wj,Wk,Wl,Wm,Wn,Zo,Zp,evalT,Nat.reduceLT,Nat.reduceEqDiff,if_true,if_false,reduceIte,Ys,ofVal,ofCell,argT,resT,setT,Y0,Int.reduceEq,Int.reduceLT,Int.reduceLE,Int.reduceNeg,mb,Nat.reduceBEq,tys,stb,tysn,empty_mk,hA,hF,hR,mkI62,g3]
        rfl
    · rw [if_neg (fun h => h2 h.2)]
      rw [decide_eq_false h2] at hF
      simp -implicitDefEqProofs only [Tryd.f12,Wa,Wb,Wc,Wd,We,Wf,Wg,Wh,Wi,Wj,Wk,Wl,Wm,Wn,Zo,Zp,evalT,Nat.reduceLT,Nat.reduceEqDiff,if_true,if_false,reduceIte,Ys,ofVal,ofCell,argT,resT,setT,Y0,Int.reduceEq,Int.reduceLT,Int.reduceLE,Int.reduceNeg,mb,Nat.reduceBEq,tys,stb,tysn,empty_mk,hA,hF]
      rfl
  · rw [if_neg (fun h => h1 h.1)]
    rw [decide_eq_false h1] at hA
    simp -implicitDefEqProofs only [Tryd.f12,Wa,Wb,Wc,Wd,We,Wf,Wg,Wh,Wi,Wj,Wk,Wl,Wm,Wn,Zo,Zp,evalT,Nat.reduceLT,Nat.reduceEqDiff,if_true,if_false,reduceIte,Ys,ofVal,ofCell,argT,resT,setT,Y0,Int.reduceEq,Int.reduceLT,Int.reduceLE,Int.reduceNeg,mb,Nat.reduceBEq,tys,stb,tysn,empty_mk,hA]
    rfl
end
end Go.Proofs.YtcjapamldllleaaDoor
namespace Go.Proofs.YtcjapamldllleaaDoor
open Go.Ab
set_option maxHeartbeats 4000000
set_option maxRecDepth 100000
set_option linter.unusedSimpArgs false
set_option linter.unusedVariables false
theorem flatI1 : ∀ xs : List Int, (xs.map fun x => [V.int .i64 x]).flatten = xs.map (V.int .i64)
  | [] => rfl
  | x :: xs => by simp only [List.map_cons, List.flatten_cons, flatI1 xs]; rfl
theorem tyd_IS {v : V} {k : Nat} (h : Tyd env.P (k + 2) 24 [v]) : ∃ xs, IsI v xs ∧ xs.length < 2 ^ 63 ∧ ∀ x ∈ xs, In64 x := by
  rcases tyd_slice h u24i with h | ⟨vss, h, hl, _, ht⟩
  · simp only [List.cons.injEq, and_true] at h
    exact ⟨[], .inl ⟨h, rfl⟩, by simp, fun x hx => by simp at hx⟩
  · simp only [List.cons.injEq, and_true] at h
    obtain ⟨xs, rfl⟩ := tyd_map (f := fun x : {x : Int // In64 x} => [V.int .i64 x.1]) (fun x hx => by
      obtain ⟨n, rfl, h1, h2⟩ := tyd_int hx u3; exact ⟨⟨n, h1, h2⟩, rfl⟩) ht
    have e : (xs.map fun x => [V.int .i64 x.1]) = ((xs.map (·.1)).map fun x => [V.int .i64 x]) := by simp
    have hm := maxLen_lt
    refine ⟨xs.map (·.1), .inr (.inl ?_), by simp only [List.length_map] at hl ⊢; omega, fun x hx => ?_⟩
    · rw [h, e, flatI1]; simp
    · obtain ⟨y, _, rfl⟩ := List.mem_map.1 hx; exact y.2
end Go.Proofs.YtcjapamldllleaaDoor
