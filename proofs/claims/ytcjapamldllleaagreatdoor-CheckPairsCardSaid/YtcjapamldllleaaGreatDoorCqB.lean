/- Proved here: the check of an expression. Conditions: those of each theorem; no statement of the seat is proved in this text. -/
import Derived.Test.YtcjapamldllleaaGreatDoorCqA
namespace Go.Proofs.YtcjapamldllleaaGreatDoor
open Go.Ab
set_option maxHeartbeats 4000000
set_option maxRecDepth 100000
set_option linter.unusedSimpArgs false
set_option linter.unusedVariables false
set_option linter.unusedSectionVars false
theorem at35 : env.P.funcs[35]? = some Tryz.f35 := by kernel_rfl
theorem at22 : env.P.funcs[22]? = some Tryz.f22 := by kernel_rfl
abbrev gN (l : List Nd) (i : Nat) : Nd := l.getD i Nd.none
def BadW (l : List Nd) (i : Nat) : Prop := i = 0 ∨ (gN l (i - 1)).op ≠ 2 ∨ l.length ≤ i + 1 ∨ ((gN l (i + 1)).op ≠ 9 ∧ (gN l (i + 1)).op ≠ 10)
instance (l : List Nd) (i : Nat) : Decidable (BadW l i) := by unfold BadW; infer_instance
def wordE (l : List Nd) (i : Nat) (cs : List Col) : Int :=
  if BadW l i then 10
  else if (colN cs (gN l (i - 1)).col).ws.length = 0 then 10
  else if (gN l i).col ∈ (colN cs (gN l (i - 1)).col).ws then 0 else 7
theorem word_r1 {Q : Post} {ks : List Kt} {T : Tm} {D : List DE} {σ : S} {v : V} {l : List Nd} {i : Nat} (hv : IsN v l) (hl : l.length ≤ 4000) (hi : i < l.length) (t0 : T 0 = v) (t1 : T 1 = .int .i64 i)
    (h : ∀ T', T' 0 = T 0 → T' 1 = T 1 → T' 2 = T 2 → T' 6 = T 6 → T' 44 = .bool (decide (BadW l i)) → G env 35 none 71 Q ks .skip T' D σ) : G env 35 none 71 Q ks (regZ 1 (bodyOf Tryz.f35)) T D σ := by
  have key : ∀ b : Bool, (b = true ↔ BadW l i) → decide (BadW l i) = b := by
    intro b hb
    cases b
    · exact decide_eq_false (fun h => by have := hb.2 h; simp at this)
    · exact decide_eq_true (hb.1 rfl)
  have e1 : IntKind.i64.wrap ((i : Int) + 1) = ((i + 1 : Nat) : Int) := by rw [wrap_i64 (by omega) (by omega)]; omega
  have ln := len_N hv
  simp only [regZ, regA, bodyOf, Tryz.f35, Option.getD_some, Option.or, Nat.reduceEqDiff, if_false, if_true, reduceIte]
  by_cases h0 : (i : Int) = 0
  · have hB : decide (BadW l i) = true := decide_eq_true (.inl (by omega))
    rw [hB] at h
    simp -implicitDefEqProofs only [Wa,Wb,Wc,Wd,We,Wf,Wg,Wh,Wi,Wj,Wk,Wl,Wm,Wn,Zo,Zp,evalT,Nat.reduceLT,Nat.reduceEqDiff,if_true,if_false,reduceIte,Ys,ofVal,ofCell,argT,resT,setT,Y0,Int.reduceEq,Int.reduceLT,Int.reduceLE,Int.reduceNeg,mb,Nat.reduceBEq,tys,stb,t0,t1,h0]
    exact h _ rfl rfl rfl rfl rfl
  have e0 : IntKind.i64.wrap ((i : Int) - 1) = ((i - 1 : Nat) : Int) := by rw [wrap_i64 (by omega) (by omega)]; omega
  have hx := idx_N hv (show i - 1 < l.length by omega)
  by_cases h1 : (gN l (i - 1)).op = 2
  case neg =>
    have hB : decide (BadW l i) = true := decide_eq_true (.inr (.inl h1))
    rw [hB] at h
    have g1 : (((gN l (i - 1)).op : Int) = 2) = False := eq_false h1
    simp -implicitDefEqProofs only [Wa,Wb,Wc,Wd,We,Wf,Wg,Wh,Wi,Wj,Wk,Wl,Wm,Wn,Zo,Zp,evalT,Nat.reduceLT,Nat.reduceEqDiff,if_true,if_false,reduceIte,Ys,ofVal,ofCell,argT,resT,setT,Y0,Int.reduceEq,Int.reduceLT,Int.reduceLE,Int.reduceNeg,mb,Nat.reduceBEq,tys,stb,tysn,t0,t1,h0,e0,hx,load_hd,g1]
    exact h _ rfl rfl rfl rfl rfl
  have g1 : (((gN l (i - 1)).op : Int) = 2) = True := eq_true h1
  by_cases h2 : (l.length : Int) ≤ ((i + 1 : Nat) : Int)
  · have hB : decide (BadW l i) = true := decide_eq_true (.inr (.inr (.inl (by omega))))
    rw [hB] at h
    simp -implicitDefEqProofs only [Wa,Wb,Wc,Wd,We,Wf,Wg,Wh,Wi,Wj,Wk,Wl,Wm,Wn,Zo,Zp,evalT,Nat.reduceLT,Nat.reduceEqDiff,if_true,if_false,reduceIte,Ys,ofVal,ofCell,argT,resT,setT,Y0,Int.reduceEq,Int.reduceLT,Int.reduceLE,Int.reduceNeg,mb,Nat.reduceBEq,tys,stb,tysn,t0,t1,h0,e0,e1,hx,ln,load_hd,g1,h2]
    exact h _ rfl rfl rfl rfl rfl
  have hy := idx_N hv (show i + 1 < l.length by omega)
  by_cases h3 : (gN l (i + 1)).op = 9
  · have hB : decide (BadW l i) = false := decide_eq_false (by rintro (h | h | h | h) <;> first | omega | exact h h1 | exact h.1 h3)
    rw [hB] at h
    have g3 : (((gN l (i + 1)).op : Int) = 9) = True := eq_true h3
    simp -implicitDefEqProofs only [Wa,Wb,Wc,Wd,We,Wf,Wg,Wh,Wi,Wj,Wk,Wl,Wm,Wn,Zo,Zp,evalT,Nat.reduceLT,Nat.reduceEqDiff,if_true,if_false,reduceIte,Ys,ofVal,ofCell,argT,resT,setT,Y0,Int.reduceEq,Int.reduceLT,Int.reduceLE,Int.reduceNeg,mb,Nat.reduceBEq,tys,stb,tysn,t0,t1,h0,e0,e1,hx,hy,ln,load_hd,g1,h2,g3]
    exact h _ rfl rfl rfl rfl rfl
  have g3 : (((gN l (i + 1)).op : Int) = 9) = False := eq_false h3
  by_cases h4 : (gN l (i + 1)).op = 10
  · have hB : decide (BadW l i) = false := decide_eq_false (by rintro (h | h | h | h) <;> first | omega | exact h h1 | exact h.2 h4)
    rw [hB] at h
    have g4 : (((gN l (i + 1)).op : Int) = 10) = True := eq_true h4
    simp -implicitDefEqProofs only [Wa,Wb,Wc,Wd,We,Wf,Wg,Wh,Wi,Wj,Wk,Wl,Wm,Wn,Zo,Zp,evalT,Nat.reduceLT,Nat.reduceEqDiff,if_true,if_false,reduceIte,Ys,ofVal,ofCell,argT,resT,setT,Y0,Int.reduceEq,Int.reduceLT,Int.reduceLE,Int.reduceNeg,mb,Nat.reduceBEq,tys,stb,tysn,t0,t1,h0,e0,e1,hx,hy,ln,load_hd,g1,h2,g3,g4]
    exact h _ rfl rfl rfl rfl rfl
  · have hB : decide (BadW l i) = true := decide_eq_true (.inr (.inr (.inr ⟨h3, h4⟩)))
    rw [hB] at h
    have g4 : (((gN l (i + 1)).op : Int) = 10) = False := eq_false h4
    simp -implicitDefEqProofs only [Wa,Wb,Wc,Wd,We,Wf,Wg,Wh,Wi,Wj,Wk,Wl,Wm,Wn,Zo,Zp,evalT,Nat.reduceLT,Nat.reduceEqDiff,if_true,if_false,reduceIte,Ys,ofVal,ofCell,argT,resT,setT,Y0,Int.reduceEq,Int.reduceLT,Int.reduceLE,Int.reduceNeg,mb,Nat.reduceBEq,tys,stb,tysn,t0,t1,h0,e0,e1,hx,hy,ln,load_hd,g1,h2,g3,g4]
    exact h _ rfl rfl rfl rfl rfl
theorem word_call (v : V) (l : List Nd) (hv : IsN v l) (hl : l.length ≤ 4000) (i : Nat) (hi : i < l.length) (cv : V) (cs : List Col) (hc : IsC cv cs) (ok : OkC cs) (hcl : cs.length ≤ 1000) (hw : ∀ i, i < cs.length → (cs.getD i Col.none).ws.length ≤ 1000) (σ : S) :
    callFn env (ev env) 35 [v, .int .i64 i, cv] σ = some (.int .i64 (wordE l i cs), σ) := by
  refine callFn_pure rfl rfl (by simp [V.closed, V.closed.closedL, closed_C hc ok, closed_N hv]) at35 rfl (by simp [Tryz.f35]) (by simp [Tryz.f35]) (G_start ?_) σ
  unfold wordE
  simp -implicitDefEqProofs only [Tryz.f35,Wa,Wb,Wc,Wd,We,Wf,Wg,Wh,Wi,Wj,Wk,Wl,Wm,Wn,G_but 1,Zp,evalT,Nat.reduceLT,Nat.reduceEqDiff,if_true,if_false,reduceIte,Ys,ofVal,ofCell,argT,resT,setT,Y0,Int.reduceEq,Int.reduceLT,Int.reduceLE,Int.reduceNeg,mb,Nat.reduceBEq,tys,stb,empty_mk]
  refine word_r1 hv hl hi ?_ ?_ ?_
  · rfl
  · rfl
  intro T' b0 b1 b2 b6 b44
  have t0 : T' 0 = v := b0
  have t1 : T' 1 = .int .i64 i := b1
  have t2 : T' 2 = cv := b2
  clear b0 b1 b2
  by_cases hb : BadW l i
  · rw [if_pos hb]
    rw [decide_eq_true hb] at b44
    simp -implicitDefEqProofs only [Wa,Wb,Wc,Wd,We,Wf,Wg,Wh,Wi,Wj,Wk,Wl,Wm,Wn,Zo,Zp,evalT,Nat.reduceLT,Nat.reduceEqDiff,if_true,if_false,reduceIte,Ys,ofVal,ofCell,argT,resT,setT,Y0,Int.reduceEq,Int.reduceLT,Int.reduceLE,Int.reduceNeg,mb,Nat.reduceBEq,tys,stb,b44]
    rfl
  · rw [if_neg hb]
    rw [decide_eq_false hb] at b44
    have hi0 : ¬ i = 0 := fun h => hb (.inl h)
    have e0 : IntKind.i64.wrap ((i : Int) - 1) = ((i - 1 : Nat) : Int) := by rw [wrap_i64 (by omega) (by omega)]; omega
    have hx := idx_N hv (show i - 1 < l.length by omega)
    have hy := idx_N hv hi
    have hF := ckcol_call cv cs hc ok hcl (gN l (i - 1)).col
    unfold colT at hF
    have hW := colN_W ok (gN l (i - 1)).col
    have hlen : (colN cs (gN l (i - 1)).col).ws.length ≤ 1000 := by
      unfold colN
      rcases seekK_spec cs (gN l (i - 1)).col with h | ⟨j, h, hj, _⟩
      · rw [h, if_neg (by omega)]; simp [Col.none]
      · rw [h, if_pos (by omega), Int.toNat_natCast]; exact hw j hj
    have hic := isCell_W hW
    generalize colN cs (gN l (i - 1)).col = c at *
    by_cases h0 : c.ws.length = 0
    · rw [if_pos h0]
      have c0 : ((c.ws.length : Int) = 0) = True := eq_true (by omega)
      simp -implicitDefEqProofs only [Wa,Wb,Wc,Wd,We,Wf,Wg,Wh,Wi,Wj,Wk,Wl,Wm,Wn,Zo,Zp,evalT,Nat.reduceLT,Nat.reduceEqDiff,if_true,if_false,reduceIte,Ys,ofVal,ofCell,argT,resT,setT,Y0,Int.reduceEq,Int.reduceLT,Int.reduceLE,Int.reduceNeg,mb,Nat.reduceBEq,tys,stb,Va,storeList,Nat.reduceAdd,Nat.reduceLeDiff,tysn,tys2,t0,t1,t2,b44,e0,hx,load_hd,hF,z44,set_end,heap_end,YW,isCell_str,isCell_int,hic,len_W hW,c0]
      rfl
    · rw [if_neg h0]
      have c0 : ((c.ws.length : Int) = 0) = False := eq_false (by omega)
      have hwv : c.w = .row (c.ws.map V.str) c.ws.length .unk := by
        rcases hW with ⟨_, h⟩ | h
        · exact absurd (by rw [h]; rfl) h0
        · exact h
      have hC := containsW_call c.ws .unk (fun _ _ _ h => by cases h) hlen (gN l i).col
      rw [← hwv] at hC
      by_cases hm : (gN l i).col ∈ c.ws
      · rw [if_pos hm]
        rw [decide_eq_true hm] at hC
        simp -implicitDefEqProofs only [Wa,Wb,Wc,Wd,We,Wf,Wg,Wh,Wi,Wj,Wk,Wl,Wm,Wn,Zo,Zp,evalT,Nat.reduceLT,Nat.reduceEqDiff,if_true,if_false,reduceIte,Ys,ofVal,ofCell,argT,resT,setT,Y0,Int.reduceEq,Int.reduceLT,Int.reduceLE,Int.reduceNeg,mb,Nat.reduceBEq,tys,stb,Va,storeList,Nat.reduceAdd,Nat.reduceLeDiff,tysn,tys2,t0,t1,t2,b44,e0,hx,hy,load_hd,hF,z44,set_end,heap_end,YW,isCell_str,isCell_int,hic,len_W hW,c0,hC,Bool.not_true,Bool.not_false]
        trace_state
        exact ⟨by kernel_rfl, rfl⟩
      · rw [if_neg hm]
        rw [decide_eq_false hm] at hC
        simp -implicitDefEqProofs only [Wa,Wb,Wc,Wd,We,Wf,Wg,Wh,Wi,Wj,Wk,Wl,Wm,Wn,Zo,Zp,evalT,Nat.reduceLT,Nat.reduceEqDiff,if_true,if_false,reduceIte,Ys,ofVal,ofCell,argT,resT,setT,Y0,Int.reduceEq,Int.reduceLT,Int.reduceLE,Int.reduceNeg,mb,Nat.reduceBEq,tys,stb,Va,storeList,Nat.reduceAdd,Nat.reduceLeDiff,tysn,tys2,t0,t1,t2,b44,e0,hx,hy,load_hd,hF,z44,set_end,heap_end,YW,isCell_str,isCell_int,hic,len_W hW,c0,hC,Bool.not_true,Bool.not_false]
        exact ⟨by kernel_rfl, rfl⟩
end Go.Proofs.YtcjapamldllleaaGreatDoor
namespace Go.Proofs.YtcjapamldllleaaGreatDoor
open Go.Ab
set_option maxHeartbeats 4000000
set_option maxRecDepth 100000
set_option linter.unusedSimpArgs false
set_option linter.unusedVariables false
set_option linter.unusedSectionVars false
def BadF (x : Nd) : Prop := x.op < 1 ∨ 17 < x.op ∨ (x.n ≠ 0 ∧ x.op ≠ 1) ∨ (x.col ≠ [] ∧ x.op ≠ 2 ∧ x.op ≠ 3)
instance (x : Nd) : Decidable (BadF x) := by unfold BadF; infer_instance
def nodeE (l : List Nd) (i : Nat) (cs : List Col) : Int :=
  if BadF (gN l i) then 3
  else if (gN l i).n < 0 ∨ 1000000000 < (gN l i).n then 2
  else if (gN l i).op = 3 then wordE l i cs
  else if (gN l i).op = 2 ∧ seekK cs (gN l i).col < 0 then 7 else 0
def objN (x : Nd) : AObj := .cells [.int .i64 x.op, .int .i64 x.n, .str x.col] 42
theorem ld_op (x : Nd) : cellAt (some (objN x)) 0 = some (.int .i64 x.op) := rfl
theorem ld_n (x : Nd) : cellAt (some (objN x)) 1 = some (.int .i64 x.n) := rfl
theorem ld_col (x : Nd) : cellAt (some (objN x)) 2 = some (.str x.col) := rfl
theorem node_r2 {Q : Post} {ks : List Kt} {T : Tm} {D : List DE} {x : Nd} (t7 : T 7 = .ptr 0 0)
    (h : ∀ T', T' 0 = T 0 → T' 1 = T 1 → T' 2 = T 2 → T' 7 = T 7 → T' 14 = .bool (decide (BadF x)) → G env 22 none 78 Q ks .skip T' D ⟨[objN x], []⟩) : G env 22 none 78 Q ks (regZ 2 (bodyOf Tryz.f22)) T D ⟨[objN x], []⟩ := by
  simp only [regZ, regA, bodyOf, Tryz.f22, Option.getD_some, Option.or, Nat.reduceEqDiff, if_false, if_true, reduceIte]
  by_cases h1 : x.op < 1
  · rw [decide_eq_true (show BadF x from .inl h1)] at h
    simp -implicitDefEqProofs only [Wa,Wb,Wc,Wd,We,Wf,Wg,Wh,Wi,Wj,Wk,Wl,Wm,Wn,Zo,Zp,evalT,Nat.reduceLT,Nat.reduceEqDiff,if_true,if_false,reduceIte,Ys,ofVal,ofCell,argT,resT,setT,Y0,Int.reduceEq,Int.reduceLT,Int.reduceLE,Int.reduceNeg,mb,Nat.reduceBEq,tys,stb,tysn,t7,ld_op,h1]
    exact h _ rfl rfl rfl rfl rfl
  by_cases h2 : 17 < x.op
  · rw [decide_eq_true (show BadF x from .inr (.inl h2))] at h
    simp -implicitDefEqProofs only [Wa,Wb,Wc,Wd,We,Wf,Wg,Wh,Wi,Wj,Wk,Wl,Wm,Wn,Zo,Zp,evalT,Nat.reduceLT,Nat.reduceEqDiff,if_true,if_false,reduceIte,Ys,ofVal,ofCell,argT,resT,setT,Y0,Int.reduceEq,Int.reduceLT,Int.reduceLE,Int.reduceNeg,mb,Nat.reduceBEq,tys,stb,tysn,t7,ld_op,h1,h2]
    exact h _ rfl rfl rfl rfl rfl
  by_cases h3 : x.n = 0
  · have g3 : ((x.n : Int) = 0) = True := eq_true h3
    by_cases h5 : x.col = []
    · rw [decide_eq_false (show ¬ BadF x from by rintro (h | h | h | h) <;> first | exact h1 h | exact h2 h | exact h.1 h3 | exact h.1 h5)] at h
      have g5 : ((x.col : List UInt8) = []) = True := eq_true h5
      simp -implicitDefEqProofs only [Wa,Wb,Wc,Wd,We,Wf,Wg,Wh,Wi,Wj,Wk,Wl,Wm,Wn,Zo,Zp,evalT,Nat.reduceLT,Nat.reduceEqDiff,if_true,if_false,reduceIte,Ys,ofVal,ofCell,argT,resT,setT,Y0,Int.reduceEq,Int.reduceLT,Int.reduceLE,Int.reduceNeg,mb,Nat.reduceBEq,tys,stb,tysn,t7,ld_op,ld_n,ld_col,h1,h2,g3,g5,vBin_sneq]
      exact h _ rfl rfl rfl rfl rfl
    have g5 : ((x.col : List UInt8) = []) = False := eq_false h5
    by_cases h6 : x.op = 2
    · rw [decide_eq_false (show ¬ BadF x from by rintro (h | h | h | h) <;> first | exact h1 h | exact h2 h | exact h.1 h3 | exact h.2.1 h6)] at h
      have g6 : ((x.op : Int) = 2) = True := eq_true h6
      simp -implicitDefEqProofs only [Wa,Wb,Wc,Wd,We,Wf,Wg,Wh,Wi,Wj,Wk,Wl,Wm,Wn,Zo,Zp,evalT,Nat.reduceLT,Nat.reduceEqDiff,if_true,if_false,reduceIte,Ys,ofVal,ofCell,argT,resT,setT,Y0,Int.reduceEq,Int.reduceLT,Int.reduceLE,Int.reduceNeg,mb,Nat.reduceBEq,tys,stb,tysn,t7,ld_op,ld_n,ld_col,h1,h2,g3,g5,g6,vBin_sneq]
      exact h _ rfl rfl rfl rfl rfl
    have g6 : ((x.op : Int) = 2) = False := eq_false h6
    by_cases h7 : x.op = 3
    · rw [decide_eq_false (show ¬ BadF x from by rintro (h | h | h | h) <;> first | exact h1 h | exact h2 h | exact h.1 h3 | exact h.2.2 h7)] at h
      have g7 : ((x.op : Int) = 3) = True := eq_true h7
      simp -implicitDefEqProofs only [Wa,Wb,Wc,Wd,We,Wf,Wg,Wh,Wi,Wj,Wk,Wl,Wm,Wn,Zo,Zp,evalT,Nat.reduceLT,Nat.reduceEqDiff,if_true,if_false,reduceIte,Ys,ofVal,ofCell,argT,resT,setT,Y0,Int.reduceEq,Int.reduceLT,Int.reduceLE,Int.reduceNeg,mb,Nat.reduceBEq,tys,stb,tysn,t7,ld_op,ld_n,ld_col,h1,h2,g3,g5,g6,g7,vBin_sneq]
      exact h _ rfl rfl rfl rfl rfl
    · have g7 : ((x.op : Int) = 3) = False := eq_false h7
      rw [decide_eq_true (show BadF x from .inr (.inr (.inr ⟨h5, h6, h7⟩)))] at h
      simp -implicitDefEqProofs only [Wa,Wb,Wc,Wd,We,Wf,Wg,Wh,Wi,Wj,Wk,Wl,Wm,Wn,Zo,Zp,evalT,Nat.reduceLT,Nat.reduceEqDiff,if_true,if_false,reduceIte,Ys,ofVal,ofCell,argT,resT,setT,Y0,Int.reduceEq,Int.reduceLT,Int.reduceLE,Int.reduceNeg,mb,Nat.reduceBEq,tys,stb,tysn,t7,ld_op,ld_n,ld_col,h1,h2,g3,g5,g6,g7,vBin_sneq]
      exact h _ rfl rfl rfl rfl rfl
  have g3 : ((x.n : Int) = 0) = False := eq_false h3
  by_cases h4 : x.op = 1
  case neg =>
    have g4 : ((x.op : Int) = 1) = False := eq_false h4
    rw [decide_eq_true (show BadF x from .inr (.inr (.inl ⟨h3, h4⟩)))] at h
    simp -implicitDefEqProofs only [Wa,Wb,Wc,Wd,We,Wf,Wg,Wh,Wi,Wj,Wk,Wl,Wm,Wn,Zo,Zp,evalT,Nat.reduceLT,Nat.reduceEqDiff,if_true,if_false,reduceIte,Ys,ofVal,ofCell,argT,resT,setT,Y0,Int.reduceEq,Int.reduceLT,Int.reduceLE,Int.reduceNeg,mb,Nat.reduceBEq,tys,stb,tysn,t7,ld_op,ld_n,ld_col,h1,h2,g3,g4,vBin_sneq]
    exact h _ rfl rfl rfl rfl rfl
  have g4 : ((x.op : Int) = 1) = True := eq_true h4
  have g6 : ((x.op : Int) = 2) = False := eq_false (by omega)
  have g7 : ((x.op : Int) = 3) = False := eq_false (by omega)
  by_cases h5 : x.col = []
  · rw [decide_eq_false (show ¬ BadF x from by rintro (h | h | h | h) <;> first | exact h1 h | exact h2 h | exact h.2 h4 | exact h.1 h5)] at h
    have g5 : ((x.col : List UInt8) = []) = True := eq_true h5
    simp -implicitDefEqProofs only [Wa,Wb,Wc,Wd,We,Wf,Wg,Wh,Wi,Wj,Wk,Wl,Wm,Wn,Zo,Zp,evalT,Nat.reduceLT,Nat.reduceEqDiff,if_true,if_false,reduceIte,Ys,ofVal,ofCell,argT,resT,setT,Y0,Int.reduceEq,Int.reduceLT,Int.reduceLE,Int.reduceNeg,mb,Nat.reduceBEq,tys,stb,tysn,t7,ld_op,ld_n,ld_col,h1,h2,g3,g4,g5,vBin_sneq]
    exact h _ rfl rfl rfl rfl rfl
  · have g5 : ((x.col : List UInt8) = []) = False := eq_false h5
    rw [decide_eq_true (show BadF x from .inr (.inr (.inr ⟨h5, by omega, by omega⟩)))] at h
    simp -implicitDefEqProofs only [Wa,Wb,Wc,Wd,We,Wf,Wg,Wh,Wi,Wj,Wk,Wl,Wm,Wn,Zo,Zp,evalT,Nat.reduceLT,Nat.reduceEqDiff,if_true,if_false,reduceIte,Ys,ofVal,ofCell,argT,resT,setT,Y0,Int.reduceEq,Int.reduceLT,Int.reduceLE,Int.reduceNeg,mb,Nat.reduceBEq,tys,stb,tysn,t7,ld_op,ld_n,ld_col,h1,h2,g3,g4,g5,g6,g7,vBin_sneq]
    exact h _ rfl rfl rfl rfl rfl
theorem node_call (v : V) (l : List Nd) (hv : IsN v l) (hl : l.length ≤ 4000) (i : Nat) (hi : i < l.length) (cv : V) (cs : List Col) (hc : IsC cv cs) (ok : OkC cs) (hcl : cs.length ≤ 1000) (hw : ∀ i, i < cs.length → (cs.getD i Col.none).ws.length ≤ 1000) (σ : S) :
    callFn env (ev env) 22 [v, .int .i64 i, cv] σ = some (.int .i64 (nodeE l i cs), σ) := by
  refine callFn_pure rfl rfl (by simp [V.closed, V.closed.closedL, closed_C hc ok, closed_N hv]) at22 rfl (by simp [Tryz.f22]) (by simp [Tryz.f22]) (G_start ?_) σ
  have hx := idx_N hv hi
  have hW := word_call v l hv hl i hi cv cs hc ok hcl hw
  have hF := ckcol_call cv cs hc ok hcl (gN l i).col
  have hWc := colN_W ok (gN l i).col
  have hic := isCell_W hWc
  unfold colT at hF
  unfold nodeE
  change vIndexAddr 3 v (.int .i64 i) = some (.rptr (.int .i64 (gN l i).op :: .int .i64 (gN l i).n :: .str (gN l i).col :: _)) at hx
  have hobj : (AObj.cells [V.int IntKind.i64 (gN l i).op, V.int IntKind.i64 (gN l i).n, V.str (gN l i).col] 42) = objN (gN l i) := rfl
  simp -implicitDefEqProofs only [Tryz.f22,Wa,Wb,Wc,Wd,We,Wf,Wg,Wh,Wi,Wj,Wk,Wl,Wm,Wn,G_but 2,Zp,evalT,Nat.reduceLT,Nat.reduceEqDiff,if_true,if_false,reduceIte,Ys,ofVal,ofCell,argT,resT,setT,Y0,Int.reduceEq,Int.reduceLT,Int.reduceLE,Int.reduceNeg,mb,Nat.reduceBEq,tys,stb,Va,storeList,Nat.reduceAdd,Nat.reduceLeDiff,tysn,empty_mk,hx,load3_rptr,YW,isCell_int,isCell_str,hobj]
  refine node_r2 (x := gN l i) ?_ ?_
  · rfl
  intro T' b0 b1 b2 b7 b14
  have t0 : T' 0 = v := b0
  have t1 : T' 1 = .int .i64 i := b1
  have t2 : T' 2 = cv := b2
  have t7 : T' 7 = .ptr 0 0 := b7
  clear b0 b1 b2 b7
  by_cases hb : BadF (gN l i)
  · rw [if_pos hb]
    rw [decide_eq_true hb] at b14
    simp -implicitDefEqProofs only [Wa,Wb,Wc,Wd,We,Wf,Wg,Wh,Wi,Wj,Wk,Wl,Wm,Wn,Zo,Zp,evalT,Nat.reduceLT,Nat.reduceEqDiff,if_true,if_false,reduceIte,Ys,ofVal,ofCell,argT,resT,setT,Y0,Int.reduceEq,Int.reduceLT,Int.reduceLE,Int.reduceNeg,mb,Nat.reduceBEq,tys,stb,b14]
    rfl
  rw [if_neg hb]
  rw [decide_eq_false hb] at b14
  by_cases h1 : (gN l i).n < 0
  · rw [if_pos (.inl h1)]
    simp -implicitDefEqProofs only [Wa,Wb,Wc,Wd,We,Wf,Wg,Wh,Wi,Wj,Wk,Wl,Wm,Wn,Zo,Zp,evalT,Nat.reduceLT,Nat.reduceEqDiff,if_true,if_false,reduceIte,Ys,ofVal,ofCell,argT,resT,setT,Y0,Int.reduceEq,Int.reduceLT,Int.reduceLE,Int.reduceNeg,mb,Nat.reduceBEq,tys,stb,tysn,b14,t7,ld_n,h1]
    rfl
  by_cases h2 : 1000000000 < (gN l i).n
  · rw [if_pos (.inr h2)]
    simp -implicitDefEqProofs only [Wa,Wb,Wc,Wd,We,Wf,Wg,Wh,Wi,Wj,Wk,Wl,Wm,Wn,Zo,Zp,evalT,Nat.reduceLT,Nat.reduceEqDiff,if_true,if_false,reduceIte,Ys,ofVal,ofCell,argT,resT,setT,Y0,Int.reduceEq,Int.reduceLT,Int.reduceLE,Int.reduceNeg,mb,Nat.reduceBEq,tys,stb,tysn,b14,t7,ld_n,h1,h2]
    rfl
  rw [if_neg (by rintro (h | h) <;> contradiction)]
  by_cases h3 : (gN l i).op = 3
  · rw [if_pos h3]
    have g3 : (((gN l i).op : Int) = 3) = True := eq_true h3
    simp -implicitDefEqProofs only [Wa,Wb,Wc,Wd,We,Wf,Wg,Wh,Wi,Wj,Wk,Wl,Wm,Wn,Zo,Zp,evalT,Nat.reduceLT,Nat.reduceEqDiff,if_true,if_false,reduceIte,Ys,ofVal,ofCell,argT,resT,setT,Y0,Int.reduceEq,Int.reduceLT,Int.reduceLE,Int.reduceNeg,mb,Nat.reduceBEq,tys,stb,tysn,b14,t0,t1,t2,t7,ld_n,ld_op,h1,h2,g3,hW]
    rfl
  rw [if_neg h3]
  have g3 : (((gN l i).op : Int) = 3) = False := eq_false h3
  by_cases h4 : (gN l i).op = 2
  · have g4 : (((gN l i).op : Int) = 2) = True := eq_true h4
    by_cases h5 : 0 ≤ seekK cs (gN l i).col
    · rw [if_neg (by omega)]
      rw [decide_eq_true h5] at hF
      simp -implicitDefEqProofs only [Wa,Wb,Wc,Wd,We,Wf,Wg,Wh,Wi,Wj,Wk,Wl,Wm,Wn,Zo,Zp,evalT,Nat.reduceLT,Nat.reduceEqDiff,if_true,if_false,reduceIte,Ys,ofVal,ofCell,argT,resT,setT,Y0,Int.reduceEq,Int.reduceLT,Int.reduceLE,Int.reduceNeg,mb,Nat.reduceBEq,tys,stb,Va,storeList,Nat.reduceAdd,Nat.reduceLeDiff,tysn,tys2,b14,t0,t1,t2,t7,ld_n,ld_op,ld_col,h1,h2,g3,g4,hF,z44,set_end,heap_end,List.length_cons,List.length_nil,YW,isCell_str,isCell_int,hic]
      trace_state
      rfl
    · rw [if_pos ⟨h4, by omega⟩]
      rw [decide_eq_false h5] at hF
      simp -implicitDefEqProofs only [Wa,Wb,Wc,Wd,We,Wf,Wg,Wh,Wi,Wj,Wk,Wl,Wm,Wn,Zo,Zp,evalT,Nat.reduceLT,Nat.reduceEqDiff,if_true,if_false,reduceIte,Ys,ofVal,ofCell,argT,resT,setT,Y0,Int.reduceEq,Int.reduceLT,Int.reduceLE,Int.reduceNeg,mb,Nat.reduceBEq,tys,stb,Va,storeList,Nat.reduceAdd,Nat.reduceLeDiff,tysn,tys2,b14,t0,t1,t2,t7,ld_n,ld_op,ld_col,h1,h2,g3,g4,hF,z44,set_end,heap_end,YW,isCell_str,isCell_int,hic]
      rfl
  · rw [if_neg (fun h => h4 h.1)]
    have g4 : (((gN l i).op : Int) = 2) = False := eq_false h4
    simp -implicitDefEqProofs only [Wa,Wb,Wc,Wd,We,Wf,Wg,Wh,Wi,Wj,Wk,Wl,Wm,Wn,Zo,Zp,evalT,Nat.reduceLT,Nat.reduceEqDiff,if_true,if_false,reduceIte,Ys,ofVal,ofCell,argT,resT,setT,Y0,Int.reduceEq,Int.reduceLT,Int.reduceLE,Int.reduceNeg,mb,Nat.reduceBEq,tys,stb,tysn,b14,t0,t1,t2,t7,ld_n,ld_op,h1,h2,g3,g4]
    rfl
end Go.Proofs.YtcjapamldllleaaGreatDoor
namespace Go.Proofs.YtcjapamldllleaaGreatDoor
open Go.Ab
set_option maxHeartbeats 4000000
set_option maxRecDepth 100000
set_option linter.unusedSimpArgs false
set_option linter.unusedVariables false
set_option linter.unusedSectionVars false
theorem at7 : env.P.funcs[7]? = some Tryz.f7 := by kernel_rfl
def exprL (l : List Nd) (cs : List Col) : Nat → Nat → List Int → Int × List Int
  | 0, _, st => (0, st)
  | m + 1, i, st =>
    if nodeE l i cs = 0 then
      match popN st (takesN (gN l i).op).1 with
      | none => (10, st)
      | some st' => exprL l cs m (i + 1) (st' ++ [(takesN (gN l i).op).2])
    else (nodeE l i cs, st)
def lastE (r : Int × List Int) (cond : Bool) : Int := if r.1 = 0 then (if r.2 = [if cond then 1 else 0] then 0 else 10) else r.1
def exprE (l : List Nd) (cs : List Col) (cond : Bool) : Int := if 200 < l.length then 4 else lastE (exprL l cs l.length 0 []) cond
theorem nodeE_op {l : List Nd} {i : Nat} {cs : List Col} (h : nodeE l i cs = 0) : 1 ≤ (gN l i).op ∧ (gN l i).op ≤ 17 := by
  unfold nodeE at h
  split at h
  · simp at h
  · rename_i hb
    constructor
    · rcases Int.lt_or_le (gN l i).op 1 with h1 | h1
      · exact absurd (.inl h1) hb
      · exact h1
    · rcases Int.lt_or_le 17 (gN l i).op with h1 | h1
      · exact absurd (.inr (.inl h1)) hb
      · exact h1
theorem popN_len {st want ys : List Int} (h : popN st want = some ys) : ys.length ≤ st.length := by
  unfold popN at h
  split at h
  · simp only [Option.some.injEq] at h
    rw [← h, List.length_take]; omega
  · simp at h
theorem takes_len (op : Int) : (takesN op).1.length ≤ 3 := by
  unfold takesN
  repeat' split
  all_goals simp
theorem idx_ops (op : Int) (h1 : 0 ≤ op) (h2 : op ≤ 17) : idxO (some (.array 18 59)) (sz env) (some (.ptr 0 0)) (some (.int .i64 op)) = some (.ptr 0 (op.toNat * 2)) := by
  have s106 : sz env 59 = some 2 := by kernel_rfl
  simp [idxO, s106, vIndexArr, h1]
  omega
theorem ld_ops {L : List AObj} (h : L[0]? = some (.cells opsL 60)) (op : Int) (h1 : 0 ≤ op) (h2 : op ≤ 17) : (loadCellsV L 2 (.ptr 0 (op.toNat * 2))).map V.agg = some (.agg [rowK (takesN op).1, .int .i64 (takesN op).2]) := by
  have hl := ops_len
  have := ops_at op.toNat (by omega)
  rw [Int.toNat_of_nonneg h1] at this
  simp only [loadCellsV, h]
  rw [if_pos (by omega), this]; rfl
theorem z106 : zeroV env 59 = some (.agg [.nilsl, .int .i64 0]) := by kernel_rfl
theorem rowK_cells (l : List Int) : (rowK l).cells = [rowK l] := by unfold rowK; split <;> rfl
theorem zv107 : ∃ z, zeroV env 60 = some (.agg z) ∧ z.length = 36 := by
  have h : (match zeroV env 60 with | some (.agg z) => z.length == 36 | _ => false) = true := by kernel_rfl
  split at h
  · rename_i z hz; exact ⟨z, hz, by simpa using h⟩
  · simp at h
theorem expr_call (v : V) (l : List Nd) (hv : IsN v l) (hl : l.length ≤ 4000) (cv : V) (cs : List Col) (hc : IsC cv cs) (ok : OkC cs) (hcl : cs.length ≤ 1000) (hw : ∀ i, i < cs.length → (cs.getD i Col.none).ws.length ≤ 1000) (cond : Bool) (σ : S) :
    callFn env (ev env) 7 [v, cv, .bool cond] σ = some (.int .i64 (exprE l cs cond), σ) := by
  refine callFn_pure rfl rfl (by simp [V.closed, V.closed.closedL, closed_C hc ok, closed_N hv]) at7 rfl (by simp [Tryz.f7]) (by simp [Tryz.f7]) (G_start ?_) σ
  by_cases h200 : (200 : Int) < (l.length : Int)
  · have he : exprE l cs cond = 4 := by unfold exprE; rw [if_pos (by omega)]
    rw [he]
    simp -implicitDefEqProofs only [Tryz.f7,Wa,Wb,Wc,Wd,We,Wf,Wg,Wh,Wi,Wj,Wk,Wl,Wm,Wn,Zo,Zp,evalT,Nat.reduceLT,Nat.reduceEqDiff,if_true,if_false,reduceIte,Ys,ofVal,ofCell,argT,resT,setT,Y0,Int.reduceEq,Int.reduceLT,Int.reduceLE,Int.reduceNeg,mb,Nat.reduceBEq,tys,stb,tysn,len_N hv,h200]
    rfl
  have he : exprE l cs cond = lastE (exprL l cs l.length 0 []) cond := by unfold exprE; rw [if_neg (by omega)]
  rw [he]
  clear he
  obtain ⟨z, hz, hzl⟩ := zv107
  have hd36 : List.drop 36 z = [] := List.drop_of_length_le (by omega)
  have build111 : buildO env 64 [] = some (.agg [.nilsl]) := by kernel_rfl
  have hcl2 := ops_cells
  have hol := ops_len
  simp -implicitDefEqProofs only [Tryz.f7,Wa,Wb,Wc,Wd,We,Wf,Wg,Wh,Wi,Wj,Wk,Wl,Wm,Wn,Zo,Zp,evalT,Nat.reduceLT,Nat.reduceEqDiff,if_true,if_false,reduceIte,Ys,ofVal,ofCell,argT,resT,setT,Y0,Int.reduceEq,Int.reduceLT,Int.reduceLE,Int.reduceNeg,mb,Nat.reduceBEq,tys,stb,Va,storeList,Nat.reduceAdd,Nat.reduceLeDiff,tysn,empty_mk,len_N hv,h200,operations_call,hz,YW,hcl2,hol,hzl,hd36,build111,YH]
  generalize hR : exprL l cs l.length 0 [] = R
  refine loop_rule (fun m T D σ => D = [] ∧ T 0 = v ∧ T 1 = cv ∧ T 2 = .bool cond ∧ T 7 = .ptr 0 0 ∧ T 8 = .ptr 1 0 ∧ T 20 = .int .i64 l.length ∧ ∃ (L : List AObj) (ts : List Nat) (i : Nat) (st : List Int), σ = ⟨L, ts⟩ ∧ L[0]? = some (.cells opsL 60) ∧ StkO L 1 st ∧
    T 21 = .int .i64 i ∧ i ≤ l.length ∧ m = l.length - i ∧ st.length ≤ i ∧ exprL l cs (l.length - i) i st = R) ?_ (l.length - 0) _ _ _ ⟨rfl, rfl, rfl, rfl, rfl, rfl, rfl, _, _, 0, [], rfl, rfl, ⟨.nilsl, rfl, .nil _ _ _, by simp [blkOf]⟩, rfl, by omega, rfl, by simp, hR⟩
  clear hR
  rintro m T D σ ⟨rfl, t0, t1, t2, t7, t8, t20, L, ts, i, st, rfl, p0, hS, t21, hi, rfl, hsl, hR⟩
  refine G_start ?_
  have p1lt : 1 < L.length := by obtain ⟨_, h, _⟩ := hS; exact lt_get h
  by_cases hlt : i < l.length
  · have c1 : (i : Int) < (l.length : Int) := by omega
    have e1 : IntKind.i64.wrap ((i : Int) + 1) = ((i + 1 : Nat) : Int) := by rw [wrap_i64 (by omega) (by omega)]; omega
    have hx := idx_N hv hlt
    have hN := node_call v l hv hl i hlt cv cs hc ok hcl hw
    obtain ⟨q, hq⟩ : ∃ q, l.length - i = q + 1 := ⟨l.length - i - 1, by omega⟩
    have hq2 : q = l.length - (i + 1) := by omega
    rw [hq] at hR
    simp only [exprL] at hR
    by_cases hn : nodeE l i cs = 0
    · rw [if_pos hn] at hR
      obtain ⟨o1, o2⟩ := nodeE_op hn
      rw [hn] at hN
      have ho := idx_ops (gN l i).op (by omega) o2
      have hld := ld_ops p0 (gN l i).op (by omega) o2
      change vIndexAddr 3 v (.int .i64 i) = some (.rptr (.int .i64 (gN l i).op :: _)) at hx
      generalize (gN l i).op = op at *
      have htl := takes_len op
      generalize hk : takesN op = tk at *
      obtain ⟨want, out⟩ := tk
      simp only at hld hR htl
      have hoc : ∀ X : AObj, (L ++ [X])[1]? = L[1]? := fun X => List.getElem?_append_left p1lt
      have hS1 : StkO (L ++ [AObj.cells [rowK want, V.int .i64 out] 59]) 1 st := by
        obtain ⟨u, g1, g2, g3⟩ := hS
        exact ⟨u, by rw [hoc]; exact g1, g2.move fun b hb => by rw [List.getElem?_append_left (g2.lt hb)], g3⟩
      have hrc := rowK_cell want
      have hrcs := rowK_cells want
      cases hp : popN st want with
      | none =>
        rw [hp] at hR
        simp only at hR
        have hP := pop_none _ ts 1 st want hS1 (by omega) (by omega) hp
        simp -implicitDefEqProofs only [Wa,Wb,Wc,Wd,We,Wf,Wg,Wh,Wi,Wj,Wk,Wl,Wm,Wn,Zo,Zp,evalT,Nat.reduceLT,Nat.reduceEqDiff,if_true,if_false,reduceIte,Ys,ofVal,ofCell,argT,resT,setT,Y0,Int.reduceEq,Int.reduceLT,Int.reduceLE,Int.reduceNeg,mb,Nat.reduceBEq,tys,stb,Va,storeList,Nat.reduceAdd,Nat.reduceLeDiff,tysn,t0,t1,t2,t7,t8,t20,t21,c1,hN,hx,load_hd,ho,hld,z106,set_end,heap_end,YW,YH,isCell_int,hrc,hP,Bool.not_false,Bool.not_true]
        subst hR
        simp [oneOr, sealDepth, sealV_int, lastE]
      | some ys =>
        rw [hp] at hR
        simp only at hR
        obtain ⟨L2, hP, hS2, hK2⟩ := pop_some _ ts 1 st want ys hS1 (by omega) (by omega) hp
        have hyl := popN_len hp
        have k2 := hK2 L.length _ (heap_end _ _) (by omega) (fun _ h => by cases h)
        obtain ⟨L3, hU, hS3, hK3⟩ := push_call L2 ts 1 ys out hS2 (by omega)
        have p3 : L3[0]? = some (.cells opsL 60) := hK3 0 _ (hK2 0 _ (by rw [List.getElem?_append_left (by omega)]; exact p0) (by omega) (fun _ h => by cases h)) (by omega) (fun _ h => by cases h)
        simp -implicitDefEqProofs only [Wa,Wb,Wc,Wd,We,Wf,Wg,Wh,Wi,Wj,Wk,Wl,Wm,Wn,Zo,Zp,evalT,Nat.reduceLT,Nat.reduceEqDiff,if_true,if_false,reduceIte,Ys,ofVal,ofCell,argT,resT,setT,Y0,Int.reduceEq,Int.reduceLT,Int.reduceLE,Int.reduceNeg,mb,Nat.reduceBEq,tys,stb,Va,storeList,Nat.reduceAdd,Nat.reduceLeDiff,tysn,t0,t1,t2,t7,t8,t20,t21,c1,e1,hN,hx,load_hd,ho,hld,z106,set_end,heap_end,YW,YH,isCell_int,hrc,hP,k2,hU,Bool.not_false,Bool.not_true]
        exact ⟨l.length - (i + 1), by omega, L3, ts, i + 1, ys ++ [out], rfl, p3, hS3, rfl, by omega, rfl, by simp; omega, by rw [← hq2]; exact hR⟩
    · rw [if_neg hn] at hR
      have hn1 : ((nodeE l i cs : Int) = 0) = False := eq_false hn
      simp -implicitDefEqProofs only [Wa,Wb,Wc,Wd,We,Wf,Wg,Wh,Wi,Wj,Wk,Wl,Wm,Wn,Zo,Zp,evalT,Nat.reduceLT,Nat.reduceEqDiff,if_true,if_false,reduceIte,Ys,ofVal,ofCell,argT,resT,setT,Y0,Int.reduceEq,Int.reduceLT,Int.reduceLE,Int.reduceNeg,mb,Nat.reduceBEq,tys,stb,Va,storeList,Nat.reduceAdd,Nat.reduceLeDiff,tysn,t0,t1,t2,t7,t8,t20,t21,c1,hN,hn1]
      subst hR
      simp [oneOr, sealDepth, sealV_int, lastE, hn]
  · have hil : i = l.length := by omega
    subst hil
    rw [Nat.sub_self] at hR
    simp only [exprL] at hR
    have c1 : ¬ (l.length : Int) < (l.length : Int) := by omega
    obtain ⟨u, g1, g2, g3⟩ := hS
    have hE := fun k : Int => equal_call u (.row [.int .i64 k] 1 .full) st [k] L ts g2.rd (RdS.row L 1 [.int .i64 k] 1 .full rfl) (by omega) (by simp)
    have r1 : ∀ k : Int, rowO env 56 1 [(0, .int .i64 k)] = some (.row [.int .i64 k] 1 .full) := fun k => by kernel_rfl
    subst hR
    cases cond with
    | true =>
      have hE := hE 1
      by_cases hd : st = [1]
      · rw [decide_eq_true hd] at hE
        simp -implicitDefEqProofs only [Wa,Wb,Wc,Wd,We,Wf,Wg,Wh,Wi,Wj,Wk,Wl,Wm,Wn,Zo,Zp,evalT,Nat.reduceLT,Nat.reduceEqDiff,if_true,if_false,reduceIte,Ys,ofVal,ofCell,argT,resT,setT,Y0,Int.reduceEq,Int.reduceLT,Int.reduceLE,Int.reduceNeg,mb,Nat.reduceBEq,tys,stb,Va,storeList,Nat.reduceAdd,Nat.reduceLeDiff,tysn,t0,t1,t2,t7,t8,t20,t21,c1,opT_nilCheck,nilO_ptr,g1,opT_rowO,r1,hE,Bool.not_false,Bool.not_true]
        simp [oneOr, sealDepth, sealV_int, lastE, hd]
      · rw [decide_eq_false hd] at hE
        simp -implicitDefEqProofs only [Wa,Wb,Wc,Wd,We,Wf,Wg,Wh,Wi,Wj,Wk,Wl,Wm,Wn,Zo,Zp,evalT,Nat.reduceLT,Nat.reduceEqDiff,if_true,if_false,reduceIte,Ys,ofVal,ofCell,argT,resT,setT,Y0,Int.reduceEq,Int.reduceLT,Int.reduceLE,Int.reduceNeg,mb,Nat.reduceBEq,tys,stb,Va,storeList,Nat.reduceAdd,Nat.reduceLeDiff,tysn,t0,t1,t2,t7,t8,t20,t21,c1,opT_nilCheck,nilO_ptr,g1,opT_rowO,r1,hE,Bool.not_false,Bool.not_true]
        simp [oneOr, sealDepth, sealV_int, lastE, hd]
    | false =>
      have hE := hE 0
      by_cases hd : st = [0]
      · rw [decide_eq_true hd] at hE
        simp -implicitDefEqProofs only [Wa,Wb,Wc,Wd,We,Wf,Wg,Wh,Wi,Wj,Wk,Wl,Wm,Wn,Zo,Zp,evalT,Nat.reduceLT,Nat.reduceEqDiff,if_true,if_false,reduceIte,Ys,ofVal,ofCell,argT,resT,setT,Y0,Int.reduceEq,Int.reduceLT,Int.reduceLE,Int.reduceNeg,mb,Nat.reduceBEq,tys,stb,Va,storeList,Nat.reduceAdd,Nat.reduceLeDiff,tysn,t0,t1,t2,t7,t8,t20,t21,c1,opT_nilCheck,nilO_ptr,g1,opT_rowO,r1,hE,Bool.not_false,Bool.not_true]
        simp [oneOr, sealDepth, sealV_int, lastE, hd]
      · rw [decide_eq_false hd] at hE
        simp -implicitDefEqProofs only [Wa,Wb,Wc,Wd,We,Wf,Wg,Wh,Wi,Wj,Wk,Wl,Wm,Wn,Zo,Zp,evalT,Nat.reduceLT,Nat.reduceEqDiff,if_true,if_false,reduceIte,Ys,ofVal,ofCell,argT,resT,setT,Y0,Int.reduceEq,Int.reduceLT,Int.reduceLE,Int.reduceNeg,mb,Nat.reduceBEq,tys,stb,Va,storeList,Nat.reduceAdd,Nat.reduceLeDiff,tysn,t0,t1,t2,t7,t8,t20,t21,c1,opT_nilCheck,nilO_ptr,g1,opT_rowO,r1,hE,Bool.not_false,Bool.not_true]
        simp [oneOr, sealDepth, sealV_int, lastE, hd]
end Go.Proofs.YtcjapamldllleaaGreatDoor
