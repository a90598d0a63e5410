/- Proved here: columns and rows. Conditions: those of each theorem; no statement of the seat is proved in this text. -/
import Derived.Test.YtcjapamldllleaaDoorSqA
namespace Go.Proofs.YtcjapamldllleaaDoor
open Go.Ab
set_option maxHeartbeats 4000000
set_option maxRecDepth 100000
set_option linter.unusedSimpArgs false
set_option linter.unusedVariables false
end Go.Proofs.YtcjapamldllleaaDoor
namespace Go.Proofs.YtcjapamldllleaaDoor
open Go.Ab
set_option maxHeartbeats 4000000
set_option maxRecDepth 100000
set_option linter.unusedSimpArgs false
set_option linter.unusedVariables false
def Bit (x : Int) : Prop := x = 0 ∨ x = 1
end Go.Proofs.YtcjapamldllleaaDoor
namespace Go.Proofs.YtcjapamldllleaaDoor
open Go.Ab
set_option maxHeartbeats 4000000
set_option maxRecDepth 100000
set_option linter.unusedSimpArgs false
set_option linter.unusedVariables false
theorem at73 : env.P.funcs[73]? = some Tryd.f73 := by kernel_rfl
theorem at51 : env.P.funcs[51]? = some Tryd.f51 := by kernel_rfl
theorem at50 : env.P.funcs[50]? = some Tryd.f50 := by kernel_rfl
theorem at32 : env.P.funcs[32]? = some Tryd.f32 := by kernel_rfl
theorem at33 : env.P.funcs[33]? = some Tryd.f33 := by kernel_rfl
def OkCol (c : Col) : Prop := IsName c.name ∧ colE c = 0
abbrev aggC (c : Col) : V := .agg [.str c.name, .int .i64 c.lo, .int .i64 c.hi, c.w]
theorem row_one {c : Col} (h : IsW c.w c.ws) : rowO env 23 1 [(0, aggC c)] = some (.row (flatC [c]) 1 .full) := by
  obtain ⟨nm, lo, hi, w, ws⟩ := c
  simp only at h
  rcases h with ⟨rfl, rfl⟩ | rfl <;> kernel_rfl
open Classical in
theorem valid_call (c : Col) (h : IsW c.w c.ws) (hs : Short c) (σ : S) : callFn env (ev env) 73 [aggC c] σ = some (.bool (decide (OkCol c)), σ) := by
  refine callFn_pure rfl rfl (by simp [V.closed, V.closed.closedL, closed_W h]) at73 rfl (by simp [Tryd.f73]) (by simp [Tryd.f73]) (G_start ?_) σ
  have hic := isCell_W h
  have hC : ∀ σ, callFn env (ev env) 89 [.row (flatC [c]) 1 .full, .int .i64 0] σ = some (.int .i64 (colX [c] 0), σ) := column_call (.row (flatC [c]) 1 .full) [c] (.inr ⟨.full, .inr rfl, rfl⟩) (fun x hx => by simp at hx; subst hx; exact h) (by simp) 0 (by simp) hs
  have hX : colX [c] 0 = 0 ↔ OkCol c := by
    unfold colX OkCol
    show (if ¬ IsName c.name then (19 : Int) else if ∃ k, k < 0 ∧ _ then 8 else colE c) = 0 ↔ _
    by_cases hn : IsName c.name
    · rw [if_neg (by simpa using hn), if_neg (by simp)]
      simp [hn]
    · rw [if_pos hn]; simp [hn]
  have hr := row_one h
  simp only [aggC] at hr ⊢
  by_cases ho : OkCol c
  · rw [hX.2 ho] at hC
    rw [decide_eq_true ho]
    simp -implicitDefEqProofs only [Tryd.f73,Wa,Wb,Wc,Wd,We,Wf,Wg,Wh,Wi,Wj,Wk,Wl,Wm,Wn,Zo,Zp,evalT,Nat.reduceLT,Nat.reduceEqDiff,if_true,if_false,reduceIte,Ys,ofVal,ofCell,argT,resT,setT,Y0,Int.reduceEq,Int.reduceLT,Int.reduceLE,Int.reduceNeg,mb,Nat.reduceBEq,tys,stb,Va,storeList,Nat.reduceAdd,Nat.reduceLeDiff,tysn,tys2,empty_mk,YW,agg44,load4_ptr (show ([AObj.cells [V.str c.name,V.int IntKind.i64 c.lo,V.int IntKind.i64 c.hi,c.w] 46] : List AObj)[0]? = some _ from rfl),opT_rowO,hr,hC]
    simp [oneOr, sealDepth, sealV_bool]
  · have hne : ((colX [c] 0 : Int) = 0) = False := eq_false (fun h => ho (hX.1 h))
    rw [decide_eq_false ho]
    simp -implicitDefEqProofs only [Tryd.f73,Wa,Wb,Wc,Wd,We,Wf,Wg,Wh,Wi,Wj,Wk,Wl,Wm,Wn,Zo,Zp,evalT,Nat.reduceLT,Nat.reduceEqDiff,if_true,if_false,reduceIte,Ys,ofVal,ofCell,argT,resT,setT,Y0,Int.reduceEq,Int.reduceLT,Int.reduceLE,Int.reduceNeg,mb,Nat.reduceBEq,tys,stb,Va,storeList,Nat.reduceAdd,Nat.reduceLeDiff,tysn,tys2,empty_mk,YW,agg44,load4_ptr (show ([AObj.cells [V.str c.name,V.int IntKind.i64 c.lo,V.int IntKind.i64 c.hi,c.w] 46] : List AObj)[0]? = some _ from rfl),opT_rowO,hr,hC,hne]
    simp [oneOr, sealDepth, sealV_bool]
theorem okCol_bounds {c : Col} (h : OkCol c) (hs : Short c) : c.lo ≤ c.hi ∧ -1000000 ≤ c.lo ∧ c.hi ≤ 1000000 := by
  obtain ⟨_, h⟩ := h
  have := hs.2.1
  unfold colE at h
  split at h
  · split at h
    · simp at h
    · rename_i h1; omega
  · split at h
    · simp at h
    · split at h
      · simp at h
      · split at h
        · simp at h
        · split at h
          · simp at h
          · rename_i h1; omega
open Classical in
theorem width_call (c : Col) (h : IsW c.w c.ws) (hs : Short c) (σ : S) : callFn env (ev env) 51 [aggC c] σ = some (.int .i64 (if OkCol c then c.hi - c.lo + 1 else 0), σ) := by
  refine callFn_pure rfl rfl (by simp [V.closed, V.closed.closedL, closed_W h]) at51 rfl (by simp [Tryd.f51]) (by simp [Tryd.f51]) (G_start ?_) σ
  have hV := valid_call c h hs
  simp only [aggC] at hV ⊢
  by_cases ho : OkCol c
  · obtain ⟨b1, b2, b3⟩ := okCol_bounds ho hs
    rw [decide_eq_true ho] at hV
    rw [if_pos ho]
    have e1 : IntKind.i64.wrap (c.hi - c.lo) = c.hi - c.lo := by rw [wrap_i64 (by omega) (by omega)]
    have e2 : IntKind.i64.wrap (c.hi - c.lo + 1) = c.hi - c.lo + 1 := by rw [wrap_i64 (by omega) (by omega)]
    simp -implicitDefEqProofs only [Tryd.f51,Wa,Wb,Wc,Wd,We,Wf,Wg,Wh,Wi,Wj,Wk,Wl,Wm,Wn,Zo,Zp,evalT,Nat.reduceLT,Nat.reduceEqDiff,if_true,if_false,reduceIte,Ys,ofVal,ofCell,argT,resT,setT,Y0,Int.reduceEq,Int.reduceLT,Int.reduceLE,Int.reduceNeg,mb,Nat.reduceBEq,tys,stb,Va,storeList,Nat.reduceAdd,Nat.reduceLeDiff,tysn,tys2,empty_mk,YW,agg44,load4_ptr (show ([AObj.cells [V.str c.name,V.int IntKind.i64 c.lo,V.int IntKind.i64 c.hi,c.w] 46] : List AObj)[0]? = some _ from rfl),hV,e1,e2]
    simp [oneOr, sealDepth, sealV_int]
  · rw [decide_eq_false ho] at hV
    rw [if_neg ho]
    simp -implicitDefEqProofs only [Tryd.f51,Wa,Wb,Wc,Wd,We,Wf,Wg,Wh,Wi,Wj,Wk,Wl,Wm,Wn,Zo,Zp,evalT,Nat.reduceLT,Nat.reduceEqDiff,if_true,if_false,reduceIte,Ys,ofVal,ofCell,argT,resT,setT,Y0,Int.reduceEq,Int.reduceLT,Int.reduceLE,Int.reduceNeg,mb,Nat.reduceBEq,tys,stb,Va,storeList,Nat.reduceAdd,Nat.reduceLeDiff,tysn,tys2,empty_mk,YW,agg44,load4_ptr (show ([AObj.cells [V.str c.name,V.int IntKind.i64 c.lo,V.int IntKind.i64 c.hi,c.w] 46] : List AObj)[0]? = some _ from rfl),hV]
    simp [oneOr, sealDepth, sealV_int]
open Classical in
theorem bad_call (c : Col) (h : IsW c.w c.ws) (hs : Short c) (σ : S) : callFn env (ev env) 50 [aggC c] σ = some (.bool (decide (¬ OkCol c)), σ) := by
  refine callFn_pure rfl rfl (by simp [V.closed, V.closed.closedL, closed_W h]) at50 rfl (by simp [Tryd.f50]) (by simp [Tryd.f50]) (G_start ?_) σ
  have hV := width_call c h hs
  simp only [aggC] at hV ⊢
  by_cases ho : OkCol c
  · obtain ⟨b1, b2, b3⟩ := okCol_bounds ho hs
    rw [if_pos ho] at hV
    have e1 : ((c.hi - c.lo + 1 : Int) = 0) = False := eq_false (by omega)
    rw [decide_eq_false (fun h => h ho)]
    simp -implicitDefEqProofs only [Tryd.f50,Wa,Wb,Wc,Wd,We,Wf,Wg,Wh,Wi,Wj,Wk,Wl,Wm,Wn,Zo,Zp,evalT,Nat.reduceLT,Nat.reduceEqDiff,if_true,if_false,reduceIte,Ys,ofVal,ofCell,argT,resT,setT,Y0,Int.reduceEq,Int.reduceLT,Int.reduceLE,Int.reduceNeg,mb,Nat.reduceBEq,tys,stb,Va,storeList,Nat.reduceAdd,Nat.reduceLeDiff,tysn,tys2,empty_mk,YW,agg44,load4_ptr (show ([AObj.cells [V.str c.name,V.int IntKind.i64 c.lo,V.int IntKind.i64 c.hi,c.w] 46] : List AObj)[0]? = some _ from rfl),hV,e1]
    simp [oneOr, sealDepth, sealV_bool]
  · rw [if_neg ho] at hV
    rw [decide_eq_true ho]
    simp -implicitDefEqProofs only [Tryd.f50,Wa,Wb,Wc,Wd,We,Wf,Wg,Wh,Wi,Wj,Wk,Wl,Wm,Wn,Zo,Zp,evalT,Nat.reduceLT,Nat.reduceEqDiff,if_true,if_false,reduceIte,Ys,ofVal,ofCell,argT,resT,setT,Y0,Int.reduceEq,Int.reduceLT,Int.reduceLE,Int.reduceNeg,mb,Nat.reduceBEq,tys,stb,Va,storeList,Nat.reduceAdd,Nat.reduceLeDiff,tysn,tys2,empty_mk,YW,agg44,load4_ptr (show ([AObj.cells [V.str c.name,V.int IntKind.i64 c.lo,V.int IntKind.i64 c.hi,c.w] 46] : List AObj)[0]? = some _ from rfl),hV]
    simp [oneOr, sealDepth, sealV_bool]
open Classical in
noncomputable def badAt (cs : List Col) (i : Nat) : Bool := decide (¬ OkCol (cs.getD i Col.none))
theorem firstQ_go {f : Nat → Bool} {n i : Nat} (h : i < n) : firstQ f (n - i) i = if f i = true then (i : Int) else firstQ f (n - (i + 1)) (i + 1) := firstQ_step h
theorem indexB_call (cv : V) (cs : List Col) (hc : IsC cv cs) (ok : OkC cs) (hl : cs.length ≤ 1000) (hs : ∀ i, i < cs.length → Short (cs.getD i Col.none)) (L : List AObj) (ts : List Nat) :
    callFn env (ev env) 72 [cv, .func 50 [] []] ⟨L, ts⟩ = some (.int .i64 (firstQ (badAt cs) cs.length 0), ⟨L, ts⟩) := by
  refine callFn_eq rfl rfl at72 rfl (by simp [Tryd.f72]) (by simp [Tryd.f72]) (G_start ?_)
  simp -implicitDefEqProofs only [Tryd.f72,Wa,Wb,Wc,Wd,We,Wf,Wg,Wh,Wi,Wj,Wk,Wl,Wm,Wn,Zo,Zp,evalT,Nat.reduceLT,Nat.reduceEqDiff,if_true,if_false,reduceIte,Ys,ofVal,ofCell,argT,resT,setT,Y0,Int.reduceEq,Int.reduceLT,Int.reduceLE,Int.reduceNeg,mb,Nat.reduceBEq,tys,stb,tys2,len_C hc]
  generalize hR : firstQ (badAt cs) cs.length 0 = R
  refine loop_rule (fun m T D σ => D = [] ∧ σ = ⟨L, ts⟩ ∧ T 0 = cv ∧ T 1 = .func 50 [] [] ∧ T 7 = .int .i64 cs.length ∧ ∃ (i : Nat), T 8 = .int .i64 i ∧ i ≤ cs.length ∧ m = cs.length - i ∧ firstQ (badAt cs) (cs.length - i) i = R) ?_ (cs.length - 0) _ _ _ ⟨rfl, rfl, rfl, rfl, rfl, 0, rfl, by omega, rfl, hR⟩
  clear hR
  rintro m T D σ ⟨rfl, rfl, t0, t1, t7, i, t8, hi, rfl, hf⟩
  refine G_start ?_
  by_cases hlt : i < cs.length
  · have c1 : (i : Int) < (cs.length : Int) := by omega
    have e1 : IntKind.i64.wrap ((i : Int) + 1) = ((i + 1 : Nat) : Int) := by rw [wrap_i64 (by omega) (by omega)]; omega
    have hx := idx_C hc hlt
    have hB := bad_call (cs.getD i Col.none) (ok.at hlt) (hs i hlt)
    rw [firstQ_go hlt] at hf
    change ∀ σ, callFn env (ev env) 50 _ σ = some (.bool (badAt cs i), σ) at hB
    simp only [aggC] at hB
    cases hb : badAt cs i with
    | true =>
      rw [hb] at hB hf
      simp only [if_true] at hf
      subst hf
      simp -implicitDefEqProofs only [Wa,Wb,Wc,Wd,We,Wf,Wg,Wh,Wi,Wj,Wk,Wl,Wm,Wn,Zo,Zp,evalT,Nat.reduceLT,Nat.reduceEqDiff,if_true,if_false,reduceIte,Ys,ofVal,ofCell,argT,resT,setT,Y0,Int.reduceEq,Int.reduceLT,Int.reduceLE,Int.reduceNeg,mb,Nat.reduceBEq,tys,stb,tys2,t0,t1,t7,t8,c1,hx,agg44,load4_rptr,hB,List.append_nil]
      simp [oneOr]
    | false =>
      rw [hb] at hB hf
      simp only [Bool.false_eq_true, if_false] at hf
      simp -implicitDefEqProofs only [Wa,Wb,Wc,Wd,We,Wf,Wg,Wh,Wi,Wj,Wk,Wl,Wm,Wn,Zo,Zp,evalT,Nat.reduceLT,Nat.reduceEqDiff,if_true,if_false,reduceIte,Ys,ofVal,ofCell,argT,resT,setT,Y0,Int.reduceEq,Int.reduceLT,Int.reduceLE,Int.reduceNeg,mb,Nat.reduceBEq,tys,stb,tys2,t0,t1,t7,t8,c1,e1,hx,agg44,load4_rptr,hB,List.append_nil]
      exact ⟨cs.length - (i + 1), by omega, i + 1, rfl, by omega, rfl, hf⟩
  · have hi2 : i = cs.length := by omega
    subst hi2
    have c1 : ¬ (cs.length : Int) < (cs.length : Int) := by omega
    rw [Nat.sub_self] at hf
    simp only [firstQ] at hf
    subst hf
    simp -implicitDefEqProofs only [Wa,Wb,Wc,Wd,We,Wf,Wg,Wh,Wi,Wj,Wk,Wl,Wm,Wn,Zo,Zp,evalT,Nat.reduceLT,Nat.reduceEqDiff,if_true,if_false,reduceIte,Ys,ofVal,ofCell,argT,resT,setT,Y0,Int.reduceEq,Int.reduceLT,Int.reduceLE,Int.reduceNeg,mb,Nat.reduceBEq,tys,stb,t0,t1,t7,t8,c1]
    simp [oneOr]
def Proper (cs : List Col) : Prop := ∀ i, i < cs.length → OkCol (cs.getD i Col.none)
open Classical in
theorem proper_first (cs : List Col) : 0 ≤ firstQ (badAt cs) cs.length 0 ↔ ¬ Proper cs := by
  rw [firstQ_pos]
  constructor
  · rintro ⟨j, _, h2, h3⟩ hP
    exact (of_decide_eq_true h3) (hP j (by omega))
  · intro hP
    apply Classical.byContradiction
    intro hn
    refine hP fun i hi => Classical.byContradiction fun hb => hn ⟨i, by omega, by omega, decide_eq_true hb⟩
open Classical in
theorem anybad_call (cv : V) (cs : List Col) (hc : IsC cv cs) (ok : OkC cs) (hl : cs.length ≤ 1000) (hs : ∀ i, i < cs.length → Short (cs.getD i Col.none)) (L : List AObj) (ts : List Nat) :
    callFn env (ev env) 49 [cv, .func 50 [] []] ⟨L, ts⟩ = some (.bool (decide (¬ Proper cs)), ⟨L, ts⟩) := by
  refine callFn_eq rfl rfl (by kernel_rfl : env.P.funcs[49]? = some Tryd.f49) rfl (by simp [Tryd.f49]) (by simp [Tryd.f49]) (G_start ?_)
  have hI := indexB_call cv cs hc ok hl hs L ts
  have hiff := proper_first cs
  by_cases hp : Proper cs
  · have h1 : ¬ (0 : Int) ≤ firstQ (badAt cs) cs.length 0 := fun h => (hiff.1 h) hp
    rw [decide_eq_false (fun h => h hp)]
    simp -implicitDefEqProofs only [Tryd.f49,Wa,Wb,Wc,Wd,We,Wf,Wg,Wh,Wi,Wj,Wk,Wl,Wm,Wn,Zo,Zp,evalT,Nat.reduceLT,Nat.reduceEqDiff,if_true,if_false,reduceIte,Ys,ofVal,ofCell,argT,resT,setT,Y0,Int.reduceEq,Int.reduceLT,Int.reduceLE,Int.reduceNeg,mb,Nat.reduceBEq,tys,stb,hI,h1]
    simp [oneOr]
  · have h1 : (0 : Int) ≤ firstQ (badAt cs) cs.length 0 := hiff.2 hp
    rw [decide_eq_true hp]
    simp -implicitDefEqProofs only [Tryd.f49,Wa,Wb,Wc,Wd,We,Wf,Wg,Wh,Wi,Wj,Wk,Wl,Wm,Wn,Zo,Zp,evalT,Nat.reduceLT,Nat.reduceEqDiff,if_true,if_false,reduceIte,Ys,ofVal,ofCell,argT,resT,setT,Y0,Int.reduceEq,Int.reduceLT,Int.reduceLE,Int.reduceNeg,mb,Nat.reduceBEq,tys,stb,hI,h1]
    simp [oneOr]
def Acc (l : List Nd) (cs : List Col) (cond : Bool) : Prop := exprE l cs cond = 0 ∧ Proper cs
open Classical in
theorem accepted_call (v : V) (l : List Nd) (hv : IsN v l) (hl : l.length ≤ 4000) (cv : V) (cs : List Col) (hc : IsC cv cs) (ok : OkC cs) (hcl : cs.length ≤ 1000) (hs : ∀ i, i < cs.length → Short (cs.getD i Col.none)) (cond : Bool) (σ : S) :
    callFn env (ev env) 32 [v, cv, .bool cond] σ = some (.bool (decide (Acc l cs cond)), σ) := by
  refine callFn_pure rfl rfl (by simp [V.closed, V.closed.closedL, closed_C hc ok, closed_N hv]) at32 rfl (by simp [Tryd.f32]) (by simp [Tryd.f32]) (G_start ?_) σ
  have hE := expr_call v l hv hl cv cs hc ok hcl (fun i hi => (hs i hi).2.1) cond
  have hB := anybad_call cv cs hc ok hcl hs [] []
  by_cases he : exprE l cs cond = 0
  · rw [he] at hE
    by_cases hp : Proper cs
    · rw [decide_eq_false (fun h => h hp)] at hB
      rw [decide_eq_true (show Acc l cs cond from ⟨he, hp⟩)]
      simp -implicitDefEqProofs only [Tryd.f32,Wa,Wb,Wc,Wd,We,Wf,Wg,Wh,Wi,Wj,Wk,Wl,Wm,Wn,Zo,Zp,evalT,Nat.reduceLT,Nat.reduceEqDiff,if_true,if_false,reduceIte,Ys,ofVal,ofCell,argT,resT,setT,Y0,Int.reduceEq,Int.reduceLT,Int.reduceLE,Int.reduceNeg,mb,Nat.reduceBEq,tys,stb,tysn,empty_mk,hE,hB,Bool.not_false]
      simp [oneOr, sealDepth, sealV_bool]
    · rw [decide_eq_true hp] at hB
      rw [decide_eq_false (show ¬ Acc l cs cond from fun h => hp h.2)]
      simp -implicitDefEqProofs only [Tryd.f32,Wa,Wb,Wc,Wd,We,Wf,Wg,Wh,Wi,Wj,Wk,Wl,Wm,Wn,Zo,Zp,evalT,Nat.reduceLT,Nat.reduceEqDiff,if_true,if_false,reduceIte,Ys,ofVal,ofCell,argT,resT,setT,Y0,Int.reduceEq,Int.reduceLT,Int.reduceLE,Int.reduceNeg,mb,Nat.reduceBEq,tys,stb,tysn,empty_mk,hE,hB,Bool.not_true]
      simp [oneOr, sealDepth, sealV_bool]
  · have hne : ((exprE l cs cond : Int) = 0) = False := eq_false he
    rw [decide_eq_false (show ¬ Acc l cs cond from fun h => he h.1)]
    simp -implicitDefEqProofs only [Tryd.f32,Wa,Wb,Wc,Wd,We,Wf,Wg,Wh,Wi,Wj,Wk,Wl,Wm,Wn,Zo,Zp,evalT,Nat.reduceLT,Nat.reduceEqDiff,if_true,if_false,reduceIte,Ys,ofVal,ofCell,argT,resT,setT,Y0,Int.reduceEq,Int.reduceLT,Int.reduceLE,Int.reduceNeg,mb,Nat.reduceBEq,tys,stb,tysn,empty_mk,hE,hne]
    simp [oneOr, sealDepth, sealV_bool]
end Go.Proofs.YtcjapamldllleaaDoor
namespace Go.Proofs.YtcjapamldllleaaDoor
open Go.Ab
set_option maxHeartbeats 4000000
set_option maxRecDepth 100000
set_option linter.unusedSimpArgs false
set_option linter.unusedVariables false
def IsI (v : V) (xs : List Int) : Prop := (v = .nilsl ∧ xs = []) ∨ v = .row (xs.map (V.int .i64)) xs.length .unk ∨ v = .row (xs.map (V.int .i64)) xs.length .full
theorem u24i : env.P.underlying 24 = some (.slice 3) := by kernel_rfl
theorem len_I {v : V} {xs : List Int} (h : IsI v xs) : vLenT (some (.slice 3)) v = some (.int .i64 xs.length) := by
  rcases h with ⟨rfl, rfl⟩ | rfl | rfl <;> rfl
theorem idx_I {v : V} {xs : List Int} (h : IsI v xs) {i : Nat} (hi : i < xs.length) : vIndexAddr 1 v (.int .i64 (i : Int)) = some (.rptr (.int .i64 (xs.getD i 0) :: (xs.map (V.int .i64)).drop (i + 1))) := by
  rcases h with ⟨rfl, rfl⟩ | rfl | rfl
  · simp at hi
  · rw [Ys, if_pos (by omega), Int.toNat_natCast, Nat.mul_one, List.drop_eq_getElem_cons (by simpa using hi)]
    simp [List.getD, hi]
  · rw [Ys, if_pos (by omega), Int.toNat_natCast, Nat.mul_one, List.drop_eq_getElem_cons (by simpa using hi)]
    simp [List.getD, hi]
theorem closed_I {v : V} {xs : List Int} (h : IsI v xs) : v.closed = true := by
  rcases h with ⟨rfl, rfl⟩ | h
  · rfl
  · have : ∀ ws : List Int, V.closed.closedL (ws.map (V.int .i64)) = true := by
      intro ws
      induction ws with
      | nil => rfl
      | cons w ws ih => simp only [List.map_cons, V.closed.closedL, V.closed, Bool.true_and]; exact ih
    rcases h with rfl | rfl <;> simp only [V.closed, this, Bool.and_self]
def Fits (cs : List Col) (xs : List Int) : Prop := xs.length = cs.length ∧ ∀ i, i < cs.length → (cs.getD i Col.none).lo ≤ xs.getD i 0 ∧ xs.getD i 0 ≤ (cs.getD i Col.none).hi
open Classical in
theorem fits_call (cv : V) (cs : List Col) (hc : IsC cv cs) (ok : OkC cs) (hcl : cs.length ≤ 1000) (v : V) (xs : List Int) (hv : IsI v xs) (hxl : xs.length ≤ 4000) (σ : S) :
    callFn env (ev env) 33 [cv, v] σ = some (.bool (decide (Fits cs xs)), σ) := by
  refine callFn_pure rfl rfl (by simp [V.closed, V.closed.closedL, closed_C hc ok, closed_I hv]) at33 rfl (by simp [Tryd.f33]) (by simp [Tryd.f33]) (G_start ?_) σ
  by_cases h1 : xs.length = cs.length
  case neg =>
    have c1 : ¬ (xs.length : Int) = (cs.length : Int) := by omega
    rw [decide_eq_false (show ¬ Fits cs xs from fun h => h1 h.1)]
    simp -implicitDefEqProofs only [Tryd.f33,Wa,Wb,Wc,Wd,We,Wf,Wg,Wh,Wi,Wj,Wk,Wl,Wm,Wn,Zo,Zp,evalT,Nat.reduceLT,Nat.reduceEqDiff,if_true,if_false,reduceIte,Ys,ofVal,ofCell,argT,resT,setT,Y0,Int.reduceEq,Int.reduceLT,Int.reduceLE,Int.reduceNeg,mb,Nat.reduceBEq,tys,stb,tysn,tys2,empty_mk,len_C hc,len_I hv,c1]
    simp [oneOr, sealDepth, sealV_bool]
  have c1 : (xs.length : Int) = (cs.length : Int) := by omega
  simp -implicitDefEqProofs only [Tryd.f33,Wa,Wb,Wc,Wd,We,Wf,Wg,Wh,Wi,Wj,Wk,Wl,Wm,Wn,Zo,Zp,evalT,Nat.reduceLT,Nat.reduceEqDiff,if_true,if_false,reduceIte,Ys,ofVal,ofCell,argT,resT,setT,Y0,Int.reduceEq,Int.reduceLT,Int.reduceLE,Int.reduceNeg,mb,Nat.reduceBEq,tys,stb,tysn,tys2,empty_mk,len_C hc,len_I hv,c1]
  refine loop_rule (fun m T D σ => D = [] ∧ T 0 = cv ∧ T 1 = v ∧ T 12 = cv ∧ T 13 = .int .i64 cs.length ∧ ∃ (L : List AObj) (i : Nat), σ = ⟨L, []⟩ ∧ T 14 = .int .i64 i ∧ i ≤ cs.length ∧ m = cs.length - i ∧ ∀ j, j < i → (cs.getD j Col.none).lo ≤ xs.getD j 0 ∧ xs.getD j 0 ≤ (cs.getD j Col.none).hi) ?_ (cs.length - 0) _ _ _
    ⟨rfl, rfl, rfl, rfl, rfl, _, 0, rfl, rfl, by omega, rfl, fun j h => by omega⟩
  rintro m T D σ ⟨rfl, t0, t1, t12, t13, L, i, rfl, t14, hi, rfl, hno⟩
  refine G_start ?_
  by_cases hlt : i < cs.length
  · have c2 : (i : Int) < (cs.length : Int) := by omega
    have e1 : IntKind.i64.wrap ((i : Int) + 1) = ((i + 1 : Nat) : Int) := by rw [wrap_i64 (by omega) (by omega)]; omega
    have hx := idx_C hc hlt
    have hy := idx_I hv (show i < xs.length by omega)
    have hic := isCell_W (ok.at hlt)
    have hnot : ∀ P : Prop, ((cs.getD i Col.none).lo ≤ xs.getD i 0 ∧ xs.getD i 0 ≤ (cs.getD i Col.none).hi → P) → (¬ P) → ¬ Fits cs xs := fun P h hn hF => hn (h (hF.2 i hlt))
    have hstep : (cs.getD i Col.none).lo ≤ xs.getD i 0 → xs.getD i 0 ≤ (cs.getD i Col.none).hi → ∀ j, j < i + 1 → (cs.getD j Col.none).lo ≤ xs.getD j 0 ∧ xs.getD j 0 ≤ (cs.getD j Col.none).hi := fun a b j hj => by
      rcases Nat.lt_or_ge j i with h2 | h2
      · exact hno j h2
      · have : j = i := by omega
        subst this; exact ⟨a, b⟩
    have hf : ¬ ((cs.getD i Col.none).lo ≤ xs.getD i 0 ∧ xs.getD i 0 ≤ (cs.getD i Col.none).hi) → decide (Fits cs xs) = false := fun h => decide_eq_false (fun hF => h (hF.2 i hlt))
    generalize cs.getD i Col.none = c at *
    generalize xs.getD i 0 = x at *
    by_cases h2 : x < c.lo
    · rw [hf (by omega)]
      simp -implicitDefEqProofs only [Wa,Wb,Wc,Wd,We,Wf,Wg,Wh,Wi,Wj,Wk,Wl,Wm,Wn,Zo,Zp,evalT,Nat.reduceLT,Nat.reduceEqDiff,if_true,if_false,reduceIte,Ys,ofVal,ofCell,argT,resT,setT,Y0,Int.reduceEq,Int.reduceLT,Int.reduceLE,Int.reduceNeg,mb,Nat.reduceBEq,tys,stb,Va,storeList,Nat.reduceAdd,Nat.reduceLeDiff,tysn,tys2,t0,t1,t12,t13,t14,c2,e1,hx,hy,agg44,load4_rptr,z44,heap_end,set_end,YW,isCell_str,isCell_int,hic,load_hd,h2]
      exact ⟨by kernel_rfl, by simp [oneOr, sealDepth, sealV_bool]⟩
    by_cases h3 : c.hi < x
    · rw [hf (by omega)]
      simp -implicitDefEqProofs only [Wa,Wb,Wc,Wd,We,Wf,Wg,Wh,Wi,Wj,Wk,Wl,Wm,Wn,Zo,Zp,evalT,Nat.reduceLT,Nat.reduceEqDiff,if_true,if_false,reduceIte,Ys,ofVal,ofCell,argT,resT,setT,Y0,Int.reduceEq,Int.reduceLT,Int.reduceLE,Int.reduceNeg,mb,Nat.reduceBEq,tys,stb,Va,storeList,Nat.reduceAdd,Nat.reduceLeDiff,tysn,tys2,t0,t1,t12,t13,t14,c2,e1,hx,hy,agg44,load4_rptr,z44,heap_end,set_end,YW,isCell_str,isCell_int,hic,load_hd,h2,h3]
      exact ⟨by kernel_rfl, by simp [oneOr, sealDepth, sealV_bool]⟩
    · simp -implicitDefEqProofs only [Wa,Wb,Wc,Wd,We,Wf,Wg,Wh,Wi,Wj,Wk,Wl,Wm,Wn,Zo,Zp,evalT,Nat.reduceLT,Nat.reduceEqDiff,if_true,if_false,reduceIte,Ys,ofVal,ofCell,argT,resT,setT,Y0,Int.reduceEq,Int.reduceLT,Int.reduceLE,Int.reduceNeg,mb,Nat.reduceBEq,tys,stb,Va,storeList,Nat.reduceAdd,Nat.reduceLeDiff,tysn,tys2,t0,t1,t12,t13,t14,c2,e1,hx,hy,agg44,load4_rptr,z44,heap_end,set_end,YW,isCell_str,isCell_int,hic,load_hd,h2,h3]
      exact ⟨by kernel_rfl, cs.length - (i + 1), by omega, _, i + 1, rfl, rfl, by omega, rfl, hstep (by omega) (by omega)⟩
  · have hi2 : i = cs.length := by omega
    subst hi2
    have c2 : ¬ (cs.length : Int) < (cs.length : Int) := by omega
    rw [decide_eq_true (show Fits cs xs from ⟨h1, hno⟩)]
    simp -implicitDefEqProofs only [Wa,Wb,Wc,Wd,We,Wf,Wg,Wh,Wi,Wj,Wk,Wl,Wm,Wn,Zo,Zp,evalT,Nat.reduceLT,Nat.reduceEqDiff,if_true,if_false,reduceIte,Ys,ofVal,ofCell,argT,resT,setT,Y0,Int.reduceEq,Int.reduceLT,Int.reduceLE,Int.reduceNeg,mb,Nat.reduceBEq,tys,stb,tys2,t0,t1,t12,t13,t14,c2]
    simp [oneOr, sealDepth, sealV_bool]
end Go.Proofs.YtcjapamldllleaaDoor
