/- Proved here: the check by the reference, columns and rows. Conditions: those of each theorem; no statement of the seat is proved in this text. -/
import Derived.Test.YtcjapamldllleaaDoorSqA
namespace Go.Proofs.YtcjapamldllleaaDoor
open Go.Ab
set_option maxHeartbeats 4000000
set_option maxRecDepth 100000
set_option linter.unusedSimpArgs false
set_option linter.unusedVariables false
theorem at75 : env.P.funcs[75]? = some Tryd.f75 := by kernel_rfl
theorem at76 : env.P.funcs[76]? = some Tryd.f76 := by kernel_rfl
theorem at56 : env.P.funcs[56]? = some Tryd.f56 := by kernel_rfl
theorem findr_call (cv : V) (cs : List Col) (hc : IsC cv cs) (ok : OkC cs) (hl : cs.length ≤ 1000) (nm : List UInt8) (σ : S) : callFn env (ev env) 75 [cv, .str nm] σ = some (foundV (seekK cs nm), σ) := by
  refine callFn_pure rfl rfl (by simp [V.closed, V.closed.closedL, closed_C hc ok]) at75 rfl (by simp [Tryd.f75]) (by simp [Tryd.f75]) (G_start ?_) σ
  have hF := columnref2_call nm (.str []) (.bool false) (.int .i64 0) rfl rfl rfl cv cs hc ok hl
  change ∀ σ, _ = some (foundV (seekK cs nm), σ) at hF
  unfold foundV at hF ⊢
  simp -implicitDefEqProofs only [Tryd.f75,Wa,Wb,Wc,Wd,We,Wf,Wg,Wh,Wi,Wj,Wk,Wl,Wm,Wn,Zo,Zp,evalT,Nat.reduceLT,Nat.reduceEqDiff,if_true,if_false,reduceIte,Ys,ofVal,ofCell,argT,resT,setT,Y0,Int.reduceEq,Int.reduceLT,Int.reduceLE,Int.reduceNeg,mb,Nat.reduceBEq,tys,stb,Va,storeList,Nat.reduceAdd,Nat.reduceLeDiff,tysn,tys2,empty_mk,build36 hc,hF]
  exact seal_found _ _
theorem wordr_r1 {Q : Post} {ks : List Kt} {T : Tm} {D : List DE} {σ : S} {v : V} {l : List Nd} {i : Nat} (hv : IsN v l) (hl : l.length ≤ 4000) (hi : i < l.length) (t0 : T 0 = v) (t1 : T 1 = .int .i64 i)
    (h : ∀ T', T' 0 = T 0 → T' 1 = T 1 → T' 2 = T 2 → T' 6 = T 6 → T' 45 = .bool (decide (BadW l i)) → G env 76 none 92 Q ks .skip T' D σ) : G env 76 none 92 Q ks (regZ 1 (bodyOf Tryd.f76)) T D σ := by
  have e1 : IntKind.i64.wrap ((i : Int) + 1) = ((i + 1 : Nat) : Int) := by rw [wrap_i64 (by omega) (by omega)]; omega
  have ln := len_N hv
  simp only [regZ, regA, bodyOf, Tryd.f76, Option.getD_some, Option.or, Nat.reduceEqDiff, if_false, if_true, reduceIte]
  by_cases h0 : (i : Int) = 0
  · have hB : decide (BadW l i) = true := decide_eq_true (.inl (by omega))
    rw [hB] at h
    simp -implicitDefEqProofs only [Wa,Wb,Wc,Wd,We,Wf,Wg,Wh,Wi,Wj,Wk,Wl,Wm,Wn,Zo,Zp,evalT,Nat.reduceLT,Nat.reduceEqDiff,if_true,if_false,reduceIte,Ys,ofVal,ofCell,argT,resT,setT,Y0,Int.reduceEq,Int.reduceLT,Int.reduceLE,Int.reduceNeg,mb,Nat.reduceBEq,tys,stb,t0,t1,h0]
    exact h _ rfl rfl rfl rfl rfl
  have e0 : IntKind.i64.wrap ((i : Int) - 1) = ((i - 1 : Nat) : Int) := by rw [wrap_i64 (by omega) (by omega)]; omega
  by_cases h2 : (l.length : Int) ≤ ((i + 1 : Nat) : Int)
  · have hB : decide (BadW l i) = true := decide_eq_true (.inr (.inr (.inl (by omega))))
    rw [hB] at h
    simp -implicitDefEqProofs only [Wa,Wb,Wc,Wd,We,Wf,Wg,Wh,Wi,Wj,Wk,Wl,Wm,Wn,Zo,Zp,evalT,Nat.reduceLT,Nat.reduceEqDiff,if_true,if_false,reduceIte,Ys,ofVal,ofCell,argT,resT,setT,Y0,Int.reduceEq,Int.reduceLT,Int.reduceLE,Int.reduceNeg,mb,Nat.reduceBEq,tys,stb,tysn,t0,t1,h0,e0,e1,ln,h2]
    exact h _ rfl rfl rfl rfl rfl
  have hx := idx_N hv (show i - 1 < l.length by omega)
  by_cases h1 : (gN l (i - 1)).op = 2
  case neg =>
    have hB : decide (BadW l i) = true := decide_eq_true (.inr (.inl h1))
    rw [hB] at h
    have g1 : (((gN l (i - 1)).op : Int) = 2) = False := eq_false h1
    simp -implicitDefEqProofs only [Wa,Wb,Wc,Wd,We,Wf,Wg,Wh,Wi,Wj,Wk,Wl,Wm,Wn,Zo,Zp,evalT,Nat.reduceLT,Nat.reduceEqDiff,if_true,if_false,reduceIte,Ys,ofVal,ofCell,argT,resT,setT,Y0,Int.reduceEq,Int.reduceLT,Int.reduceLE,Int.reduceNeg,mb,Nat.reduceBEq,tys,stb,tysn,t0,t1,h0,e0,e1,ln,h2,hx,load_hd,g1]
    exact h _ rfl rfl rfl rfl rfl
  have g1 : (((gN l (i - 1)).op : Int) = 2) = True := eq_true h1
  have hy := idx_N hv (show i + 1 < l.length by omega)
  by_cases h3 : (gN l (i + 1)).op = 9
  · have hB : decide (BadW l i) = false := decide_eq_false (by rintro (h | h | h | h) <;> first | omega | exact h h1 | exact h.1 h3)
    rw [hB] at h
    have g3 : (((gN l (i + 1)).op : Int) = 9) = True := eq_true h3
    simp -implicitDefEqProofs only [Wa,Wb,Wc,Wd,We,Wf,Wg,Wh,Wi,Wj,Wk,Wl,Wm,Wn,Zo,Zp,evalT,Nat.reduceLT,Nat.reduceEqDiff,if_true,if_false,reduceIte,Ys,ofVal,ofCell,argT,resT,setT,Y0,Int.reduceEq,Int.reduceLT,Int.reduceLE,Int.reduceNeg,mb,Nat.reduceBEq,tys,stb,tysn,t0,t1,h0,e0,e1,hx,hy,ln,load_hd,g1,h2,g3]
    exact h _ rfl rfl rfl rfl rfl
  have g3 : (((gN l (i + 1)).op : Int) = 9) = False := eq_false h3
  by_cases h4 : (gN l (i + 1)).op = 10
  · have hB : decide (BadW l i) = false := decide_eq_false (by rintro (h | h | h | h) <;> first | omega | exact h h1 | exact h.2 h4)
    rw [hB] at h
    have g4 : (((gN l (i + 1)).op : Int) = 10) = True := eq_true h4
    simp -implicitDefEqProofs only [Wa,Wb,Wc,Wd,We,Wf,Wg,Wh,Wi,Wj,Wk,Wl,Wm,Wn,Zo,Zp,evalT,Nat.reduceLT,Nat.reduceEqDiff,if_true,if_false,reduceIte,Ys,ofVal,ofCell,argT,resT,setT,Y0,Int.reduceEq,Int.reduceLT,Int.reduceLE,Int.reduceNeg,mb,Nat.reduceBEq,tys,stb,tysn,t0,t1,h0,e0,e1,hx,hy,ln,load_hd,g1,h2,g3,g4]
    exact h _ rfl rfl rfl rfl rfl
  · have hB : decide (BadW l i) = true := decide_eq_true (.inr (.inr (.inr ⟨h3, h4⟩)))
    rw [hB] at h
    have g4 : (((gN l (i + 1)).op : Int) = 10) = False := eq_false h4
    simp -implicitDefEqProofs only [Wa,Wb,Wc,Wd,We,Wf,Wg,Wh,Wi,Wj,Wk,Wl,Wm,Wn,Zo,Zp,evalT,Nat.reduceLT,Nat.reduceEqDiff,if_true,if_false,reduceIte,Ys,ofVal,ofCell,argT,resT,setT,Y0,Int.reduceEq,Int.reduceLT,Int.reduceLE,Int.reduceNeg,mb,Nat.reduceBEq,tys,stb,tysn,t0,t1,h0,e0,e1,hx,hy,ln,load_hd,g1,h2,g3,g4]
    exact h _ rfl rfl rfl rfl rfl
theorem wordr_call (v : V) (l : List Nd) (hv : IsN v l) (hl : l.length ≤ 4000) (i : Nat) (hi : i < l.length) (cv : V) (cs : List Col) (hc : IsC cv cs) (ok : OkC cs) (hcl : cs.length ≤ 1000) (hw : ∀ i, i < cs.length → (cs.getD i Col.none).ws.length ≤ 1000) (σ : S) :
    callFn env (ev env) 76 [v, .int .i64 i, cv] σ = some (.int .i64 (wordE l i cs), σ) := by
  refine callFn_pure rfl rfl (by simp [V.closed, V.closed.closedL, closed_C hc ok, closed_N hv]) at76 rfl (by simp [Tryd.f76]) (by simp [Tryd.f76]) (G_start ?_) σ
  unfold wordE
  simp -implicitDefEqProofs only [Tryd.f76,Wa,Wb,Wc,Wd,We,Wf,Wg,Wh,Wi,Wj,Wk,Wl,Wm,Wn,G_but 1,Zp,evalT,Nat.reduceLT,Nat.reduceEqDiff,if_true,if_false,reduceIte,Ys,ofVal,ofCell,argT,resT,setT,Y0,Int.reduceEq,Int.reduceLT,Int.reduceLE,Int.reduceNeg,mb,Nat.reduceBEq,tys,stb,empty_mk]
  refine wordr_r1 hv hl hi ?_ ?_ ?_
  · rfl
  · rfl
  intro T' b0 b1 b2 b6 b45
  have t0 : T' 0 = v := b0
  have t1 : T' 1 = .int .i64 i := b1
  have t2 : T' 2 = cv := b2
  clear b0 b1 b2
  by_cases hb : BadW l i
  · rw [if_pos hb]
    rw [decide_eq_true hb] at b45
    simp -implicitDefEqProofs only [Wa,Wb,Wc,Wd,We,Wf,Wg,Wh,Wi,Wj,Wk,Wl,Wm,Wn,Zo,Zp,evalT,Nat.reduceLT,Nat.reduceEqDiff,if_true,if_false,reduceIte,Ys,ofVal,ofCell,argT,resT,setT,Y0,Int.reduceEq,Int.reduceLT,Int.reduceLE,Int.reduceNeg,mb,Nat.reduceBEq,tys,stb,b45]
    rfl
  rw [if_neg hb]
  rw [decide_eq_false hb] at b45
  have hi0 : ¬ i = 0 := fun h => hb (.inl h)
  have e0 : IntKind.i64.wrap ((i : Int) - 1) = ((i - 1 : Nat) : Int) := by rw [wrap_i64 (by omega) (by omega)]; omega
  have hx := idx_N hv (show i - 1 < l.length by omega)
  have hy := idx_N hv hi
  have hF := findr_call cv cs hc ok hcl (gN l (i - 1)).col
  unfold foundV at hF
  rcases seekK_spec cs (gN l (i - 1)).col with hk | ⟨j, hk, hj, _⟩
  · have hcN : colN cs (gN l (i - 1)).col = Col.none := by unfold colN; rw [hk, if_neg (by omega)]
    rw [hcN, if_pos (by rfl)]
    rw [hk, if_neg (by omega), decide_eq_false (by omega)] at hF
    simp -implicitDefEqProofs only [Wa,Wb,Wc,Wd,We,Wf,Wg,Wh,Wi,Wj,Wk,Wl,Wm,Wn,Zo,Zp,evalT,Nat.reduceLT,Nat.reduceEqDiff,if_true,if_false,reduceIte,Ys,ofVal,ofCell,argT,resT,setT,Y0,Int.reduceEq,Int.reduceLT,Int.reduceLE,Int.reduceNeg,mb,Nat.reduceBEq,tys,stb,Va,storeList,Nat.reduceAdd,Nat.reduceLeDiff,tysn,tys2,t0,t1,t2,b45,e0,hx,load_hd,hF]
    rfl
  have hcN : colN cs (gN l (i - 1)).col = cs.getD j Col.none := by unfold colN; rw [hk, if_pos (by omega), Int.toNat_natCast]
  rw [hcN]
  rw [hk, if_pos (by omega), decide_eq_true (by omega)] at hF
  have hW := ok.at hj
  have hwl := hw j hj
  have hcx := idx_C hc hj
  generalize hcc : cs.getD j Col.none = c at *
  by_cases h0 : c.ws.length = 0
  · rw [if_pos h0]
    have c0 : ((c.ws.length : Int) = 0) = True := eq_true (by omega)
    simp -implicitDefEqProofs only [Wa,Wb,Wc,Wd,We,Wf,Wg,Wh,Wi,Wj,Wk,Wl,Wm,Wn,Zo,Zp,evalT,Nat.reduceLT,Nat.reduceEqDiff,if_true,if_false,reduceIte,Ys,ofVal,ofCell,argT,resT,setT,Y0,Int.reduceEq,Int.reduceLT,Int.reduceLE,Int.reduceNeg,mb,Nat.reduceBEq,tys,stb,Va,storeList,Nat.reduceAdd,Nat.reduceLeDiff,tysn,tys2,t0,t1,t2,b45,e0,hx,load_hd,hF,hcx,len_W hW,c0]
    rfl
  rw [if_neg h0]
  have c0 : ((c.ws.length : Int) = 0) = False := eq_false (by omega)
  generalize hres : (if (gN l i).col ∈ c.ws then (0 : Int) else 7) = res
  simp -implicitDefEqProofs only [Wa,Wb,Wc,Wd,We,Wf,Wg,Wh,Wi,Wj,Wk,Wl,Wm,Wn,Zo,Zp,evalT,Nat.reduceLT,Nat.reduceEqDiff,if_true,if_false,reduceIte,Ys,ofVal,ofCell,argT,resT,setT,Y0,Int.reduceEq,Int.reduceLT,Int.reduceLE,Int.reduceNeg,mb,Nat.reduceBEq,tys,stb,Va,storeList,Nat.reduceAdd,Nat.reduceLeDiff,tysn,tys2,t0,t1,t2,b45,e0,hx,load_hd,hF,hcx,len_W hW,c0]
  refine loop_rule (fun m T D σ => D = [] ∧ σ = ⟨[], []⟩ ∧ T 0 = v ∧ T 1 = .int .i64 i ∧ T 2 = cv ∧ T 7 = .int .i64 j ∧ ∃ k : Nat, T 9 = .int .i64 k ∧ k ≤ c.ws.length ∧ m = c.ws.length - k ∧ ∀ q, q < k → c.ws.getD q [] ≠ (gN l i).col) ?_ (c.ws.length - 0) _ _ _ ⟨rfl, rfl, t0, t1, t2, rfl, 0, rfl, by omega, rfl, fun q h => by omega⟩
  clear t0 t1 t2 b45 b6 T'
  rintro m T D σ ⟨rfl, rfl, t0, t1, t2, t7, k, t9, hk2, rfl, hno⟩
  refine G_start ?_
  by_cases hlt : k < c.ws.length
  · have c1 : (k : Int) < (c.ws.length : Int) := by omega
    have e1 : IntKind.i64.wrap ((k : Int) + 1) = ((k + 1 : Nat) : Int) := by rw [wrap_i64 (by omega) (by omega)]; omega
    have hz := idx_W hW hlt
    by_cases he : c.ws.getD k [] = (gN l i).col
    · have hm : (gN l i).col ∈ c.ws := by rw [← he]; simp [List.getD, hlt]
      rw [if_pos hm] at hres
      subst hres
      have he1 : ((c.ws.getD k [] : List UInt8) = (gN l i).col) = True := eq_true he
      simp -implicitDefEqProofs only [Wa,Wb,Wc,Wd,We,Wf,Wg,Wh,Wi,Wj,Wk,Wl,Wm,Wn,Zo,Zp,evalT,Nat.reduceLT,Nat.reduceEqDiff,if_true,if_false,reduceIte,Ys,ofVal,ofCell,argT,resT,setT,Y0,Int.reduceEq,Int.reduceLT,Int.reduceLE,Int.reduceNeg,mb,Nat.reduceBEq,tys,stb,tysn,tys2,t0,t1,t2,t7,t9,c1,hcx,load_hd,len_W hW,hz,hy,vBin_seql,he1]
      exact ⟨by kernel_rfl, rfl⟩
    · have he1 : ((c.ws.getD k [] : List UInt8) = (gN l i).col) = False := eq_false he
      simp -implicitDefEqProofs only [Wa,Wb,Wc,Wd,We,Wf,Wg,Wh,Wi,Wj,Wk,Wl,Wm,Wn,Zo,Zp,evalT,Nat.reduceLT,Nat.reduceEqDiff,if_true,if_false,reduceIte,Ys,ofVal,ofCell,argT,resT,setT,Y0,Int.reduceEq,Int.reduceLT,Int.reduceLE,Int.reduceNeg,mb,Nat.reduceBEq,tys,stb,tysn,tys2,t0,t1,t2,t7,t9,c1,e1,hcx,load_hd,len_W hW,hz,hy,vBin_seql,he1]
      exact ⟨by kernel_rfl, c.ws.length - (k + 1), by omega, k + 1, rfl, by omega, rfl, fun q hq => by
        rcases Nat.lt_or_ge q k with h2 | h2
        · exact hno q h2
        · have : q = k := by omega
          subst this; exact he⟩
  · have hk3 : k = c.ws.length := by omega
    subst hk3
    have c1 : ¬ (c.ws.length : Int) < (c.ws.length : Int) := by omega
    have hm : ¬ (gN l i).col ∈ c.ws := by
      intro hm
      obtain ⟨q, hq, hqe⟩ := List.mem_iff_getElem.1 hm
      exact hno q hq (by simp [List.getD, hq, hqe])
    rw [if_neg hm] at hres
    subst hres
    simp -implicitDefEqProofs only [Wa,Wb,Wc,Wd,We,Wf,Wg,Wh,Wi,Wj,Wk,Wl,Wm,Wn,Zo,Zp,evalT,Nat.reduceLT,Nat.reduceEqDiff,if_true,if_false,reduceIte,Ys,ofVal,ofCell,argT,resT,setT,Y0,Int.reduceEq,Int.reduceLT,Int.reduceLE,Int.reduceNeg,mb,Nat.reduceBEq,tys,stb,tysn,tys2,t0,t1,t2,t7,t9,c1,hcx,load_hd,len_W hW]
    rfl
theorem noder_r2 {Q : Post} {ks : List Kt} {T : Tm} {D : List DE} {x : Nd} (t7 : T 7 = .ptr 0 0)
    (h : ∀ T', T' 0 = T 0 → T' 1 = T 1 → T' 2 = T 2 → T' 7 = T 7 → T' 14 = .bool (decide (BadF x)) → G env 56 none 83 Q ks .skip T' D ⟨[objN x], []⟩) : G env 56 none 83 Q ks (regZ 2 (bodyOf Tryd.f56)) T D ⟨[objN x], []⟩ := by
  simp only [regZ, regA, bodyOf, Tryd.f56, Option.getD_some, Option.or, Nat.reduceEqDiff, if_false, if_true, reduceIte]
  by_cases h1 : x.op < 1
  · rw [decide_eq_true (show BadF x from .inl h1)] at h
    simp -implicitDefEqProofs only [Wa,Wb,Wc,Wd,We,Wf,Wg,Wh,Wi,Wj,Wk,Wl,Wm,Wn,Zo,Zp,evalT,Nat.reduceLT,Nat.reduceEqDiff,if_true,if_false,reduceIte,Ys,ofVal,ofCell,argT,resT,setT,Y0,Int.reduceEq,Int.reduceLT,Int.reduceLE,Int.reduceNeg,mb,Nat.reduceBEq,tys,stb,tysn,t7,ld_op,h1]
    exact h _ rfl rfl rfl rfl rfl
  by_cases h2 : 17 < x.op
  · rw [decide_eq_true (show BadF x from .inr (.inl h2))] at h
    simp -implicitDefEqProofs only [Wa,Wb,Wc,Wd,We,Wf,Wg,Wh,Wi,Wj,Wk,Wl,Wm,Wn,Zo,Zp,evalT,Nat.reduceLT,Nat.reduceEqDiff,if_true,if_false,reduceIte,Ys,ofVal,ofCell,argT,resT,setT,Y0,Int.reduceEq,Int.reduceLT,Int.reduceLE,Int.reduceNeg,mb,Nat.reduceBEq,tys,stb,tysn,t7,ld_op,h1,h2]
    exact h _ rfl rfl rfl rfl rfl
  by_cases h3 : x.n = 0
  · have g3 : ((x.n : Int) = 0) = True := eq_true h3
    by_cases h5 : x.col = []
    · rw [decide_eq_false (show ¬ BadF x from by rintro (h | h | h | h) <;> first | exact h1 h | exact h2 h | exact h.1 h3 | exact h.1 h5)] at h
      have g5 : ((x.col : List UInt8) = []) = True := eq_true h5
      simp -implicitDefEqProofs only [Wa,Wb,Wc,Wd,We,Wf,Wg,Wh,Wi,Wj,Wk,Wl,Wm,Wn,Zo,Zp,evalT,Nat.reduceLT,Nat.reduceEqDiff,if_true,if_false,reduceIte,Ys,ofVal,ofCell,argT,resT,setT,Y0,Int.reduceEq,Int.reduceLT,Int.reduceLE,Int.reduceNeg,mb,Nat.reduceBEq,tys,stb,tysn,t7,ld_op,ld_n,ld_col,h1,h2,g3,g5,vBin_sneq]
      exact h _ rfl rfl rfl rfl rfl
    have g5 : ((x.col : List UInt8) = []) = False := eq_false h5
    by_cases h6 : x.op = 2
    · rw [decide_eq_false (show ¬ BadF x from by rintro (h | h | h | h) <;> first | exact h1 h | exact h2 h | exact h.1 h3 | exact h.2.1 h6)] at h
      have g6 : ((x.op : Int) = 2) = True := eq_true h6
      simp -implicitDefEqProofs only [Wa,Wb,Wc,Wd,We,Wf,Wg,Wh,Wi,Wj,Wk,Wl,Wm,Wn,Zo,Zp,evalT,Nat.reduceLT,Nat.reduceEqDiff,if_true,if_false,reduceIte,Ys,ofVal,ofCell,argT,resT,setT,Y0,Int.reduceEq,Int.reduceLT,Int.reduceLE,Int.reduceNeg,mb,Nat.reduceBEq,tys,stb,tysn,t7,ld_op,ld_n,ld_col,h1,h2,g3,g5,g6,vBin_sneq]
      exact h _ rfl rfl rfl rfl rfl
    have g6 : ((x.op : Int) = 2) = False := eq_false h6
    by_cases h7 : x.op = 3
    · rw [decide_eq_false (show ¬ BadF x from by rintro (h | h | h | h) <;> first | exact h1 h | exact h2 h | exact h.1 h3 | exact h.2.2 h7)] at h
      have g7 : ((x.op : Int) = 3) = True := eq_true h7
      simp -implicitDefEqProofs only [Wa,Wb,Wc,Wd,We,Wf,Wg,Wh,Wi,Wj,Wk,Wl,Wm,Wn,Zo,Zp,evalT,Nat.reduceLT,Nat.reduceEqDiff,if_true,if_false,reduceIte,Ys,ofVal,ofCell,argT,resT,setT,Y0,Int.reduceEq,Int.reduceLT,Int.reduceLE,Int.reduceNeg,mb,Nat.reduceBEq,tys,stb,tysn,t7,ld_op,ld_n,ld_col,h1,h2,g3,g5,g6,g7,vBin_sneq]
      exact h _ rfl rfl rfl rfl rfl
    · have g7 : ((x.op : Int) = 3) = False := eq_false h7
      rw [decide_eq_true (show BadF x from .inr (.inr (.inr ⟨h5, h6, h7⟩)))] at h
      simp -implicitDefEqProofs only [Wa,Wb,Wc,Wd,We,Wf,Wg,Wh,Wi,Wj,Wk,Wl,Wm,Wn,Zo,Zp,evalT,Nat.reduceLT,Nat.reduceEqDiff,if_true,if_false,reduceIte,Ys,ofVal,ofCell,argT,resT,setT,Y0,Int.reduceEq,Int.reduceLT,Int.reduceLE,Int.reduceNeg,mb,Nat.reduceBEq,tys,stb,tysn,t7,ld_op,ld_n,ld_col,h1,h2,g3,g5,g6,g7,vBin_sneq]
      exact h _ rfl rfl rfl rfl rfl
  have g3 : ((x.n : Int) = 0) = False := eq_false h3
  by_cases h4 : x.op = 1
  case neg =>
    have g4 : ((x.op : Int) = 1) = False := eq_false h4
    rw [decide_eq_true (show BadF x from .inr (.inr (.inl ⟨h3, h4⟩)))] at h
    simp -implicitDefEqProofs only [Wa,Wb,Wc,Wd,We,Wf,Wg,Wh,Wi,Wj,Wk,Wl,Wm,Wn,Zo,Zp,evalT,Nat.reduceLT,Nat.reduceEqDiff,if_true,if_false,reduceIte,Ys,ofVal,ofCell,argT,resT,setT,Y0,Int.reduceEq,Int.reduceLT,Int.reduceLE,Int.reduceNeg,mb,Nat.reduceBEq,tys,stb,tysn,t7,ld_op,ld_n,ld_col,h1,h2,g3,g4,vBin_sneq]
    exact h _ rfl rfl rfl rfl rfl
  have g4 : ((x.op : Int) = 1) = True := eq_true h4
  have g6 : ((x.op : Int) = 2) = False := eq_false (by omega)
  have g7 : ((x.op : Int) = 3) = False := eq_false (by omega)
  by_cases h5 : x.col = []
  · rw [decide_eq_false (show ¬ BadF x from by rintro (h | h | h | h) <;> first | exact h1 h | exact h2 h | exact h.2 h4 | exact h.1 h5)] at h
    have g5 : ((x.col : List UInt8) = []) = True := eq_true h5
    simp -implicitDefEqProofs only [Wa,Wb,Wc,Wd,We,Wf,Wg,Wh,Wi,Wj,Wk,Wl,Wm,Wn,Zo,Zp,evalT,Nat.reduceLT,Nat.reduceEqDiff,if_true,if_false,reduceIte,Ys,ofVal,ofCell,argT,resT,setT,Y0,Int.reduceEq,Int.reduceLT,Int.reduceLE,Int.reduceNeg,mb,Nat.reduceBEq,tys,stb,tysn,t7,ld_op,ld_n,ld_col,h1,h2,g3,g4,g5,vBin_sneq]
    exact h _ rfl rfl rfl rfl rfl
  · have g5 : ((x.col : List UInt8) = []) = False := eq_false h5
    rw [decide_eq_true (show BadF x from .inr (.inr (.inr ⟨h5, by omega, by omega⟩)))] at h
    simp -implicitDefEqProofs only [Wa,Wb,Wc,Wd,We,Wf,Wg,Wh,Wi,Wj,Wk,Wl,Wm,Wn,Zo,Zp,evalT,Nat.reduceLT,Nat.reduceEqDiff,if_true,if_false,reduceIte,Ys,ofVal,ofCell,argT,resT,setT,Y0,Int.reduceEq,Int.reduceLT,Int.reduceLE,Int.reduceNeg,mb,Nat.reduceBEq,tys,stb,tysn,t7,ld_op,ld_n,ld_col,h1,h2,g3,g4,g5,g6,g7,vBin_sneq]
    exact h _ rfl rfl rfl rfl rfl
theorem noder_call (v : V) (l : List Nd) (hv : IsN v l) (hl : l.length ≤ 4000) (i : Nat) (hi : i < l.length) (cv : V) (cs : List Col) (hc : IsC cv cs) (ok : OkC cs) (hcl : cs.length ≤ 1000) (hw : ∀ i, i < cs.length → (cs.getD i Col.none).ws.length ≤ 1000) (σ : S) :
    callFn env (ev env) 56 [v, .int .i64 i, cv] σ = some (.int .i64 (nodeE l i cs), σ) := by
  refine callFn_pure rfl rfl (by simp [V.closed, V.closed.closedL, closed_C hc ok, closed_N hv]) at56 rfl (by simp [Tryd.f56]) (by simp [Tryd.f56]) (G_start ?_) σ
  have hx := idx_N hv hi
  have hW := wordr_call v l hv hl i hi cv cs hc ok hcl hw
  have hF := findr_call cv cs hc ok hcl (gN l i).col
  unfold foundV at hF
  unfold nodeE
  change vIndexAddr 3 v (.int .i64 i) = some (.rptr (.int .i64 (gN l i).op :: .int .i64 (gN l i).n :: .str (gN l i).col :: _)) at hx
  have hobj : (AObj.cells [V.int IntKind.i64 (gN l i).op, V.int IntKind.i64 (gN l i).n, V.str (gN l i).col] 52) = objN (gN l i) := rfl
  simp -implicitDefEqProofs only [Tryd.f56,Wa,Wb,Wc,Wd,We,Wf,Wg,Wh,Wi,Wj,Wk,Wl,Wm,Wn,G_but 2,Zp,evalT,Nat.reduceLT,Nat.reduceEqDiff,if_true,if_false,reduceIte,Ys,ofVal,ofCell,argT,resT,setT,Y0,Int.reduceEq,Int.reduceLT,Int.reduceLE,Int.reduceNeg,mb,Nat.reduceBEq,tys,stb,Va,storeList,Nat.reduceAdd,Nat.reduceLeDiff,tysn,empty_mk,hx,load3_rptr,YW,isCell_int,isCell_str,hobj]
  refine noder_r2 (x := gN l i) ?_ ?_
  · rfl
  intro T' b0 b1 b2 b7 b14
  have t0 : T' 0 = v := b0
  have t1 : T' 1 = .int .i64 i := b1
  have t2 : T' 2 = cv := b2
  have t7 : T' 7 = .ptr 0 0 := b7
  clear b0 b1 b2 b7
  by_cases hb : BadF (gN l i)
  · rw [if_pos hb]
    rw [decide_eq_true hb] at b14
    simp -implicitDefEqProofs only [Wa,Wb,Wc,Wd,We,Wf,Wg,Wh,Wi,Wj,Wk,Wl,Wm,Wn,Zo,Zp,evalT,Nat.reduceLT,Nat.reduceEqDiff,if_true,if_false,reduceIte,Ys,ofVal,ofCell,argT,resT,setT,Y0,Int.reduceEq,Int.reduceLT,Int.reduceLE,Int.reduceNeg,mb,Nat.reduceBEq,tys,stb,b14]
    rfl
  rw [if_neg hb]
  rw [decide_eq_false hb] at b14
  by_cases h1 : (gN l i).op = 1
  · have g1 : (((gN l i).op : Int) = 1) = True := eq_true h1
    have g3 : (((gN l i).op : Int) = 3) = False := eq_false (by omega)
    have g2 : (((gN l i).op : Int) = 2) = False := eq_false (by omega)
    by_cases h2 : (gN l i).n < 0
    · rw [if_pos (.inl h2)]
      simp -implicitDefEqProofs only [Wa,Wb,Wc,Wd,We,Wf,Wg,Wh,Wi,Wj,Wk,Wl,Wm,Wn,Zo,Zp,evalT,Nat.reduceLT,Nat.reduceEqDiff,if_true,if_false,reduceIte,Ys,ofVal,ofCell,argT,resT,setT,Y0,Int.reduceEq,Int.reduceLT,Int.reduceLE,Int.reduceNeg,mb,Nat.reduceBEq,tys,stb,tysn,b14,t7,ld_n,ld_op,g1,h2]
      rfl
    by_cases h3 : 1000000000 < (gN l i).n
    · rw [if_pos (.inr h3)]
      simp -implicitDefEqProofs only [Wa,Wb,Wc,Wd,We,Wf,Wg,Wh,Wi,Wj,Wk,Wl,Wm,Wn,Zo,Zp,evalT,Nat.reduceLT,Nat.reduceEqDiff,if_true,if_false,reduceIte,Ys,ofVal,ofCell,argT,resT,setT,Y0,Int.reduceEq,Int.reduceLT,Int.reduceLE,Int.reduceNeg,mb,Nat.reduceBEq,tys,stb,tysn,b14,t7,ld_n,ld_op,g1,h2,h3]
      rfl
    rw [if_neg (by rintro (h | h) <;> contradiction), if_neg (by omega), if_neg (by omega)]
    simp -implicitDefEqProofs only [Wa,Wb,Wc,Wd,We,Wf,Wg,Wh,Wi,Wj,Wk,Wl,Wm,Wn,Zo,Zp,evalT,Nat.reduceLT,Nat.reduceEqDiff,if_true,if_false,reduceIte,Ys,ofVal,ofCell,argT,resT,setT,Y0,Int.reduceEq,Int.reduceLT,Int.reduceLE,Int.reduceNeg,mb,Nat.reduceBEq,tys,stb,tysn,b14,t7,ld_n,ld_op,g1,g2,g3,h2,h3]
    rfl
  have g1 : (((gN l i).op : Int) = 1) = False := eq_false h1
  have hn0 : (gN l i).n = 0 := by
    rcases Classical.em ((gN l i).n = 0) with h | h
    · exact h
    · exact absurd (.inr (.inr (.inl ⟨h, h1⟩))) hb
  rw [if_neg (by omega)]
  by_cases h2 : (gN l i).op = 2
  · have g2 : (((gN l i).op : Int) = 2) = True := eq_true h2
    rw [if_neg (by omega)]
    by_cases h5 : 0 ≤ seekK cs (gN l i).col
    · rw [if_neg (by omega)]
      rw [decide_eq_true h5] at hF
      simp -implicitDefEqProofs only [Wa,Wb,Wc,Wd,We,Wf,Wg,Wh,Wi,Wj,Wk,Wl,Wm,Wn,Zo,Zp,evalT,Nat.reduceLT,Nat.reduceEqDiff,if_true,if_false,reduceIte,Ys,ofVal,ofCell,argT,resT,setT,Y0,Int.reduceEq,Int.reduceLT,Int.reduceLE,Int.reduceNeg,mb,Nat.reduceBEq,tys,stb,Va,storeList,Nat.reduceAdd,Nat.reduceLeDiff,tysn,tys2,b14,t0,t1,t2,t7,ld_n,ld_op,ld_col,g1,g2,hF]
      rfl
    · rw [if_pos ⟨h2, by omega⟩]
      rw [decide_eq_false h5] at hF
      simp -implicitDefEqProofs only [Wa,Wb,Wc,Wd,We,Wf,Wg,Wh,Wi,Wj,Wk,Wl,Wm,Wn,Zo,Zp,evalT,Nat.reduceLT,Nat.reduceEqDiff,if_true,if_false,reduceIte,Ys,ofVal,ofCell,argT,resT,setT,Y0,Int.reduceEq,Int.reduceLT,Int.reduceLE,Int.reduceNeg,mb,Nat.reduceBEq,tys,stb,Va,storeList,Nat.reduceAdd,Nat.reduceLeDiff,tysn,tys2,b14,t0,t1,t2,t7,ld_n,ld_op,ld_col,g1,g2,hF]
      rfl
  have g2 : (((gN l i).op : Int) = 2) = False := eq_false h2
  by_cases h3 : (gN l i).op = 3
  · rw [if_pos h3]
    have g3 : (((gN l i).op : Int) = 3) = True := eq_true h3
    simp -implicitDefEqProofs only [Wa,Wb,Wc,Wd,We,Wf,Wg,Wh,Wi,Wj,Wk,Wl,Wm,Wn,Zo,Zp,evalT,Nat.reduceLT,Nat.reduceEqDiff,if_true,if_false,reduceIte,Ys,ofVal,ofCell,argT,resT,setT,Y0,Int.reduceEq,Int.reduceLT,Int.reduceLE,Int.reduceNeg,mb,Nat.reduceBEq,tys,stb,tysn,b14,t0,t1,t2,t7,ld_n,ld_op,g1,g2,g3,hW]
    rfl
  · rw [if_neg h3, if_neg (fun h => h2 h.1)]
    have g3 : (((gN l i).op : Int) = 3) = False := eq_false h3
    simp -implicitDefEqProofs only [Wa,Wb,Wc,Wd,We,Wf,Wg,Wh,Wi,Wj,Wk,Wl,Wm,Wn,Zo,Zp,evalT,Nat.reduceLT,Nat.reduceEqDiff,if_true,if_false,reduceIte,Ys,ofVal,ofCell,argT,resT,setT,Y0,Int.reduceEq,Int.reduceLT,Int.reduceLE,Int.reduceNeg,mb,Nat.reduceBEq,tys,stb,tysn,b14,t0,t1,t2,t7,ld_n,ld_op,g1,g2,g3]
    rfl
end Go.Proofs.YtcjapamldllleaaDoor
namespace Go.Proofs.YtcjapamldllleaaDoor
open Go.Ab
set_option maxHeartbeats 4000000
set_option maxRecDepth 100000
set_option linter.unusedSimpArgs false
set_option linter.unusedVariables false
theorem at35 : env.P.funcs[35]? = some Tryd.f35 := by kernel_rfl
def codeK (x : Int) : UInt8 := if x = 0 then 110 else 116
def Bit (x : Int) : Prop := x = 0 ∨ x = 1
def codeZ (x : Int) : Int := if x = 0 then 110 else 116
theorem takesr_call (op : Int) (h1 : 1 ≤ op) (h2 : op ≤ 17) (σ : S) : callFn env (ev env) 57 [.int .i64 op] σ = some (.tup [.str ((takesN op).1.map codeK), .int .u8 (codeZ (takesN op).2)], σ) := by
  have h : op = 1 ∨ op = 2 ∨ op = 3 ∨ op = 4 ∨ op = 5 ∨ op = 6 ∨ op = 7 ∨ op = 8 ∨ op = 9 ∨ op = 10 ∨ op = 11 ∨ op = 12 ∨ op = 13 ∨ op = 14 ∨ op = 15 ∨ op = 16 ∨ op = 17 := by omega
  rcases h with rfl | rfl | rfl | rfl | rfl | rfl | rfl | rfl | rfl | rfl | rfl | rfl | rfl | rfl | rfl | rfl | rfl <;> exact row_of_run rfl rfl rfl (k := 20) (by rw [← runQ_eq]; kernel_rfl) σ
theorem takes_bit (op : Int) : (∀ x ∈ (takesN op).1, Bit x) ∧ Bit (takesN op).2 := by
  unfold takesN Bit
  repeat' split
  all_goals simp
theorem code_inj {a b : Int} (ha : Bit a) (hb : Bit b) (h : codeK a = codeK b) : a = b := by
  rcases ha with rfl | rfl <;> rcases hb with rfl | rfl <;> first | rfl | (revert h; decide)
theorem code_map : ∀ (a b : List Int), (∀ x ∈ a, Bit x) → (∀ x ∈ b, Bit x) → (a.map codeK = b.map codeK ↔ a = b)
  | [], [], _, _ => by simp
  | [], b :: bs, _, _ => by simp
  | a :: as', [], _, _ => by simp
  | a :: as', b :: bs, ha, hb => by
    have ih := code_map as' bs (fun x hx => ha x (by simp [hx])) (fun x hx => hb x (by simp [hx]))
    simp only [List.map_cons, List.cons.injEq, ih]
    constructor
    · rintro ⟨h1, h2⟩; exact ⟨code_inj (ha a (by simp)) (hb b (by simp)) h1, h2⟩
    · rintro ⟨rfl, h2⟩; exact ⟨rfl, h2⟩
theorem slice_lo (s : List UInt8) (i : Nat) (hi : i ≤ s.length) : sliceO env 9 (.str s) (some (.int .i64 (i : Nat))) none none = some (.str (s.drop i)) := by
  have h : List.take (s.length - i) (List.drop i s) = List.drop i s := List.take_of_length_le (by simp)
  simp [sliceO, u9, vSlice, vBound, hi, h]
theorem slice_hi (s : List UInt8) (i : Nat) (hi : i ≤ s.length) : sliceO env 9 (.str s) none (some (.int .i64 (i : Nat))) none = some (.str (s.take i)) := by
  simp [sliceO, u9, vSlice, vBound, hi]
theorem u21 : env.P.underlying 21 = some (.int .i32) := by kernel_rfl
theorem conv_out (x : Int) (σ : S) : IntKind.i32.wrap (codeZ x) = codeZ x ∧ convO env σ 21 9 (some (.int .i32)) (some .string) (.int .i32 (codeZ x)) = some (.str [codeK x], σ) := by
  unfold codeZ codeK
  split <;> exact ⟨by kernel_rfl, by kernel_rfl⟩
theorem vBin_sadd' (a b : List UInt8) : vBin .add (.str a) (.str b) = if a.length + b.length ≤ lim then some (.str (a ++ b)) else none := rfl
theorem vBin_sadd (us : Option TypeDesc) (cc : Bool) (a b : List UInt8) : vBinT us cc .add (.str a) (.str b) = if a.length + b.length ≤ lim then some (.str (a ++ b)) else none := by
  unfold vBinT
  rw [vBin_sadd']
  by_cases h : a.length + b.length ≤ lim
  · rw [if_pos h]
  · rw [if_neg h]
theorem exprr_call (v : V) (l : List Nd) (hv : IsN v l) (hl : l.length ≤ 4000) (cv : V) (cs : List Col) (hc : IsC cv cs) (ok : OkC cs) (hcl : cs.length ≤ 1000) (hw : ∀ i, i < cs.length → (cs.getD i Col.none).ws.length ≤ 1000) (cond : Bool) (σ : S) :
    callFn env (ev env) 35 [v, cv, .bool cond] σ = some (.int .i64 (exprE l cs cond), σ) := by
  refine callFn_pure rfl rfl (by simp [V.closed, V.closed.closedL, closed_C hc ok, closed_N hv]) at35 rfl (by simp [Tryd.f35]) (by simp [Tryd.f35]) (G_start ?_) σ
  by_cases h200 : (200 : Int) < (l.length : Int)
  · have he : exprE l cs cond = 4 := by unfold exprE; rw [if_pos (by omega)]
    rw [he]
    simp -implicitDefEqProofs only [Tryd.f35,Wa,Wb,Wc,Wd,We,Wf,Wg,Wh,Wi,Wj,Wk,Wl,Wm,Wn,Zo,Zp,evalT,Nat.reduceLT,Nat.reduceEqDiff,if_true,if_false,reduceIte,Ys,ofVal,ofCell,argT,resT,setT,Y0,Int.reduceEq,Int.reduceLT,Int.reduceLE,Int.reduceNeg,mb,Nat.reduceBEq,tys,stb,tysn,len_N hv,h200]
    rfl
  have he : exprE l cs cond = lastE (exprL l cs l.length 0 []) cond := by unfold exprE; rw [if_neg (by omega)]
  rw [he]
  clear he
  simp -implicitDefEqProofs only [Tryd.f35,Wa,Wb,Wc,Wd,We,Wf,Wg,Wh,Wi,Wj,Wk,Wl,Wm,Wn,Zo,Zp,evalT,Nat.reduceLT,Nat.reduceEqDiff,if_true,if_false,reduceIte,Ys,ofVal,ofCell,argT,resT,setT,Y0,Int.reduceEq,Int.reduceLT,Int.reduceLE,Int.reduceNeg,mb,Nat.reduceBEq,tys,stb,Va,storeList,Nat.reduceAdd,Nat.reduceLeDiff,tysn,empty_mk,len_N hv,h200]
  generalize hR : exprL l cs l.length 0 [] = R
  refine loop_rule (fun m T D σ => D = [] ∧ σ = ⟨[], []⟩ ∧ T 0 = v ∧ T 1 = cv ∧ T 2 = .bool cond ∧ ∃ (i : Nat) (st : List Int), T 7 = .str (st.map codeK) ∧ T 8 = .int .i64 i ∧ i ≤ l.length ∧ m = l.length - i ∧ st.length ≤ i ∧ (∀ x ∈ st, Bit x) ∧ exprL l cs (l.length - i) i st = R) ?_ (l.length - 0) _ _ _
    ⟨rfl, rfl, rfl, rfl, rfl, 0, [], rfl, rfl, by omega, rfl, by simp, by simp, hR⟩
  clear hR
  rintro m T D σ ⟨rfl, rfl, t0, t1, t2, i, st, t7, t8, hi, rfl, hsl, hbit, hR⟩
  refine G_start ?_
  have hml : (st.map codeK).length = st.length := by simp
  by_cases hlt : i < l.length
  · have c1 : (i : Int) < (l.length : Int) := by omega
    have e1 : IntKind.i64.wrap ((i : Int) + 1) = ((i + 1 : Nat) : Int) := by rw [wrap_i64 (by omega) (by omega)]; omega
    have hx := idx_N hv hlt
    have hN := noder_call v l hv hl i hlt cv cs hc ok hcl hw
    obtain ⟨q, hq⟩ : ∃ q, l.length - i = q + 1 := ⟨l.length - i - 1, by omega⟩
    have hq2 : q = l.length - (i + 1) := by omega
    rw [hq] at hR
    simp only [exprL] at hR
    by_cases hn : nodeE l i cs = 0
    · rw [if_pos hn] at hR
      obtain ⟨o1, o2⟩ := nodeE_op hn
      rw [hn] at hN
      have hT := takesr_call (gN l i).op o1 o2
      change vIndexAddr 3 v (.int .i64 i) = some (.rptr (.int .i64 (gN l i).op :: _)) at hx
      generalize (gN l i).op = op at *
      have htl := takes_len op
      obtain ⟨hb1, hb2⟩ := takes_bit op
      generalize hk : takesN op = tk at *
      obtain ⟨want, out⟩ := tk
      simp only at hT hR htl hb1 hb2
      have hwl : (want.map codeK).length = want.length := by simp
      by_cases hge : want.length ≤ st.length
      · have e2 : IntKind.i64.wrap (((st.map codeK).length : Int) - ((want.map codeK).length : Int)) = ((st.length - want.length : Nat) : Int) := by rw [hml, hwl, wrap_i64 (by omega) (by omega)]; omega
        have c2 : ¬ ((st.length - want.length : Nat) : Int) < 0 := by omega
        have hs1 := slice_lo (st.map codeK) (st.length - want.length) (by omega)
        have hs2 := slice_hi (st.map codeK) (st.length - want.length) (by omega)
        rw [← List.map_drop] at hs1
        rw [← List.map_take] at hs2
        have hiff := code_map (st.drop (st.length - want.length)) want (fun x hx => hbit x (List.mem_of_mem_drop hx)) hb1
        by_cases hd : st.drop (st.length - want.length) = want
        · have hp : popN st want = some (st.take (st.length - want.length)) := by unfold popN; rw [if_pos ⟨hge, hd⟩]
          rw [hp] at hR
          simp only at hR
          have g1 : (((st.drop (st.length - want.length)).map codeK : List UInt8) = want.map codeK) = True := eq_true (hiff.2 hd)
          obtain ⟨v1, v2⟩ := conv_out out ⟨[], []⟩
          have hlm : ((st.take (st.length - want.length)).map codeK).length + 1 ≤ lim := by
            have : lim = 2 ^ 40 := rfl
            rw [List.length_map, List.length_take, this]; omega
          simp -implicitDefEqProofs only [Wa,Wb,Wc,Wd,We,Wf,Wg,Wh,Wi,Wj,Wk,Wl,Wm,Wn,Zo,Zp,evalT,Nat.reduceLT,Nat.reduceEqDiff,if_true,if_false,reduceIte,Ys,ofVal,ofCell,argT,resT,setT,Y0,Int.reduceEq,Int.reduceLT,Int.reduceLE,Int.reduceNeg,mb,Nat.reduceBEq,tys,stb,tysn,t0,t1,t2,t7,t8,c1,e1,len_N hv,hN,hx,load_hd,hT,len_str,e2,c2,opT_slice,optO_none,optO_some,hs1,hs2,vBin_sneq,g1,u21,v1,v2,vBin_sadd,hlm]
          trace_state
          exact ⟨l.length - (i + 1), by omega, i + 1, st.take (st.length - want.length) ++ [out], by simp, rfl, by omega, rfl, by simp; omega, fun x hx => by
            rcases List.mem_append.1 hx with h | h
            · exact hbit x (List.mem_of_mem_take h)
            · simp at h; subst h; exact hb2, by rw [← hq2]; exact hR⟩
        · have hp : popN st want = none := by unfold popN; rw [if_neg (fun h => hd h.2)]
          rw [hp] at hR
          simp only at hR
          have g1 : (((st.drop (st.length - want.length)).map codeK : List UInt8) = want.map codeK) = False := eq_false (fun h => hd (hiff.1 h))
          simp -implicitDefEqProofs only [Wa,Wb,Wc,Wd,We,Wf,Wg,Wh,Wi,Wj,Wk,Wl,Wm,Wn,Zo,Zp,evalT,Nat.reduceLT,Nat.reduceEqDiff,if_true,if_false,reduceIte,Ys,ofVal,ofCell,argT,resT,setT,Y0,Int.reduceEq,Int.reduceLT,Int.reduceLE,Int.reduceNeg,mb,Nat.reduceBEq,tys,stb,tysn,t0,t1,t2,t7,t8,c1,e1,len_N hv,hN,hx,load_hd,hT,len_str,e2,c2,opT_slice,optO_none,optO_some,hs1,hs2,vBin_sneq,g1]
          subst hR
          simp [oneOr, sealDepth, sealV_int, lastE]
      · have hp : popN st want = none := by unfold popN; rw [if_neg (fun h => hge h.1)]
        rw [hp] at hR
        simp only at hR
        have e2 : IntKind.i64.wrap (((st.map codeK).length : Int) - ((want.map codeK).length : Int)) = (st.length : Int) - (want.length : Int) := by rw [hml, hwl, wrap_i64 (by omega) (by omega)]
        have c2 : (st.length : Int) - (want.length : Int) < 0 := by omega
        simp -implicitDefEqProofs only [Wa,Wb,Wc,Wd,We,Wf,Wg,Wh,Wi,Wj,Wk,Wl,Wm,Wn,Zo,Zp,evalT,Nat.reduceLT,Nat.reduceEqDiff,if_true,if_false,reduceIte,Ys,ofVal,ofCell,argT,resT,setT,Y0,Int.reduceEq,Int.reduceLT,Int.reduceLE,Int.reduceNeg,mb,Nat.reduceBEq,tys,stb,tysn,t0,t1,t2,t7,t8,c1,e1,len_N hv,hN,hx,load_hd,hT,len_str,e2,c2]
        subst hR
        simp [oneOr, sealDepth, sealV_int, lastE]
    · rw [if_neg hn] at hR
      have hn1 : ((nodeE l i cs : Int) = 0) = False := eq_false hn
      simp -implicitDefEqProofs only [Wa,Wb,Wc,Wd,We,Wf,Wg,Wh,Wi,Wj,Wk,Wl,Wm,Wn,Zo,Zp,evalT,Nat.reduceLT,Nat.reduceEqDiff,if_true,if_false,reduceIte,Ys,ofVal,ofCell,argT,resT,setT,Y0,Int.reduceEq,Int.reduceLT,Int.reduceLE,Int.reduceNeg,mb,Nat.reduceBEq,tys,stb,Va,storeList,Nat.reduceAdd,Nat.reduceLeDiff,tysn,t0,t1,t2,t7,t8,c1,hN,hn1,len_N hv]
      subst hR
      simp [oneOr, sealDepth, sealV_int, lastE, hn]
  · have hil : i = l.length := by omega
    subst hil
    rw [Nat.sub_self] at hR
    simp only [exprL] at hR
    have c1 : ¬ (l.length : Int) < (l.length : Int) := by omega
    subst hR
    have k1 := code_map st [1] hbit (by simp [Bit])
    have k0 := code_map st [0] hbit (by simp [Bit])
    cases cond with
    | true =>
      by_cases hd : st = [1]
      · have g : ((st.map codeK : List UInt8) = [116]) = True := eq_true (k1.2 hd)
        simp -implicitDefEqProofs only [Wa,Wb,Wc,Wd,We,Wf,Wg,Wh,Wi,Wj,Wk,Wl,Wm,Wn,Zo,Zp,evalT,Nat.reduceLT,Nat.reduceEqDiff,if_true,if_false,reduceIte,Ys,ofVal,ofCell,argT,resT,setT,Y0,Int.reduceEq,Int.reduceLT,Int.reduceLE,Int.reduceNeg,mb,Nat.reduceBEq,tys,stb,tysn,t0,t1,t2,t7,t8,c1,len_N hv,vBin_sneq,g]
        simp [oneOr, sealDepth, sealV_int, lastE, hd]
      · have g : ((st.map codeK : List UInt8) = [116]) = False := eq_false (fun h => hd (k1.1 h))
        simp -implicitDefEqProofs only [Wa,Wb,Wc,Wd,We,Wf,Wg,Wh,Wi,Wj,Wk,Wl,Wm,Wn,Zo,Zp,evalT,Nat.reduceLT,Nat.reduceEqDiff,if_true,if_false,reduceIte,Ys,ofVal,ofCell,argT,resT,setT,Y0,Int.reduceEq,Int.reduceLT,Int.reduceLE,Int.reduceNeg,mb,Nat.reduceBEq,tys,stb,tysn,t0,t1,t2,t7,t8,c1,len_N hv,vBin_sneq,g]
        simp [oneOr, sealDepth, sealV_int, lastE, hd]
    | false =>
      by_cases hd : st = [0]
      · have g : ((st.map codeK : List UInt8) = [110]) = True := eq_true (k0.2 hd)
        simp -implicitDefEqProofs only [Wa,Wb,Wc,Wd,We,Wf,Wg,Wh,Wi,Wj,Wk,Wl,Wm,Wn,Zo,Zp,evalT,Nat.reduceLT,Nat.reduceEqDiff,if_true,if_false,reduceIte,Ys,ofVal,ofCell,argT,resT,setT,Y0,Int.reduceEq,Int.reduceLT,Int.reduceLE,Int.reduceNeg,mb,Nat.reduceBEq,tys,stb,tysn,t0,t1,t2,t7,t8,c1,len_N hv,vBin_sneq,g]
        simp [oneOr, sealDepth, sealV_int, lastE, hd]
      · have g : ((st.map codeK : List UInt8) = [110]) = False := eq_false (fun h => hd (k0.1 h))
        simp -implicitDefEqProofs only [Wa,Wb,Wc,Wd,We,Wf,Wg,Wh,Wi,Wj,Wk,Wl,Wm,Wn,Zo,Zp,evalT,Nat.reduceLT,Nat.reduceEqDiff,if_true,if_false,reduceIte,Ys,ofVal,ofCell,argT,resT,setT,Y0,Int.reduceEq,Int.reduceLT,Int.reduceLE,Int.reduceNeg,mb,Nat.reduceBEq,tys,stb,tysn,t0,t1,t2,t7,t8,c1,len_N hv,vBin_sneq,g]
        simp [oneOr, sealDepth, sealV_int, lastE, hd]
end Go.Proofs.YtcjapamldllleaaDoor
namespace Go.Proofs.YtcjapamldllleaaDoor
open Go.Ab
set_option maxHeartbeats 4000000
set_option maxRecDepth 100000
set_option linter.unusedSimpArgs false
set_option linter.unusedVariables false
theorem at73 : env.P.funcs[73]? = some Tryd.f73 := by kernel_rfl
theorem at51 : env.P.funcs[51]? = some Tryd.f51 := by kernel_rfl
theorem at50 : env.P.funcs[50]? = some Tryd.f50 := by kernel_rfl
theorem at58 : env.P.funcs[58]? = some Tryd.f58 := by kernel_rfl
theorem at32 : env.P.funcs[32]? = some Tryd.f32 := by kernel_rfl
theorem at36 : env.P.funcs[36]? = some Tryd.f36 := by kernel_rfl
theorem at33 : env.P.funcs[33]? = some Tryd.f33 := by kernel_rfl
theorem at37 : env.P.funcs[37]? = some Tryd.f37 := by kernel_rfl
def OkCol (c : Col) : Prop := IsName c.name ∧ colE c = 0
abbrev aggC (c : Col) : V := .agg [.str c.name, .int .i64 c.lo, .int .i64 c.hi, c.w]
theorem row_one {c : Col} (h : IsW c.w c.ws) : rowO env 23 1 [(0, aggC c)] = some (.row (flatC [c]) 1 .full) := by
  obtain ⟨nm, lo, hi, w, ws⟩ := c
  simp only at h
  rcases h with ⟨rfl, rfl⟩ | rfl <;> kernel_rfl
open Classical in
theorem valid_call (c : Col) (h : IsW c.w c.ws) (hs : Short c) (σ : S) : callFn env (ev env) 73 [aggC c] σ = some (.bool (decide (OkCol c)), σ) := by
  refine callFn_pure rfl rfl (by simp [V.closed, V.closed.closedL, closed_W h]) at73 rfl (by simp [Tryd.f73]) (by simp [Tryd.f73]) (G_start ?_) σ
  have hic := isCell_W h
  have hC : ∀ σ, callFn env (ev env) 89 [.row (flatC [c]) 1 .full, .int .i64 0] σ = some (.int .i64 (colX [c] 0), σ) := column_call (.row (flatC [c]) 1 .full) [c] (.inr ⟨.full, .inr rfl, rfl⟩) (fun x hx => by simp at hx; subst hx; exact h) (by simp) 0 (by simp) hs
  have hX : colX [c] 0 = 0 ↔ OkCol c := by
    unfold colX OkCol
    show (if ¬ IsName c.name then (19 : Int) else if ∃ k, k < 0 ∧ _ then 8 else colE c) = 0 ↔ _
    by_cases hn : IsName c.name
    · rw [if_neg (by simpa using hn), if_neg (by simp)]
      simp [hn]
    · rw [if_pos hn]; simp [hn]
  have hr := row_one h
  simp only [aggC] at hr ⊢
  by_cases ho : OkCol c
  · rw [hX.2 ho] at hC
    rw [decide_eq_true ho]
    simp -implicitDefEqProofs only [Tryd.f73,Wa,Wb,Wc,Wd,We,Wf,Wg,Wh,Wi,Wj,Wk,Wl,Wm,Wn,Zo,Zp,evalT,Nat.reduceLT,Nat.reduceEqDiff,if_true,if_false,reduceIte,Ys,ofVal,ofCell,argT,resT,setT,Y0,Int.reduceEq,Int.reduceLT,Int.reduceLE,Int.reduceNeg,mb,Nat.reduceBEq,tys,stb,Va,storeList,Nat.reduceAdd,Nat.reduceLeDiff,tysn,tys2,empty_mk,YW,agg44,load4_ptr (show ([AObj.cells [V.str c.name,V.int IntKind.i64 c.lo,V.int IntKind.i64 c.hi,c.w] 46] : List AObj)[0]? = some _ from rfl),opT_rowO,hr,hC]
    simp [oneOr, sealDepth, sealV_bool]
  · have hne : ((colX [c] 0 : Int) = 0) = False := eq_false (fun h => ho (hX.1 h))
    rw [decide_eq_false ho]
    simp -implicitDefEqProofs only [Tryd.f73,Wa,Wb,Wc,Wd,We,Wf,Wg,Wh,Wi,Wj,Wk,Wl,Wm,Wn,Zo,Zp,evalT,Nat.reduceLT,Nat.reduceEqDiff,if_true,if_false,reduceIte,Ys,ofVal,ofCell,argT,resT,setT,Y0,Int.reduceEq,Int.reduceLT,Int.reduceLE,Int.reduceNeg,mb,Nat.reduceBEq,tys,stb,Va,storeList,Nat.reduceAdd,Nat.reduceLeDiff,tysn,tys2,empty_mk,YW,agg44,load4_ptr (show ([AObj.cells [V.str c.name,V.int IntKind.i64 c.lo,V.int IntKind.i64 c.hi,c.w] 46] : List AObj)[0]? = some _ from rfl),opT_rowO,hr,hC,hne]
    simp [oneOr, sealDepth, sealV_bool]
open Classical in
theorem validr_call (c : Col) (h : IsW c.w c.ws) (hs : Short c) (σ : S) : callFn env (ev env) 58 [aggC c] σ = some (.bool (decide (OkCol c)), σ) := by
  refine callFn_pure rfl rfl (by simp [V.closed, V.closed.closedL, closed_W h]) at58 rfl (by simp [Tryd.f58]) (by simp [Tryd.f58]) (G_start ?_) σ
  have hN := refname_call c.name hs.1
  have hE := colref_call c h hs
  simp only [aggC] at hE ⊢
  by_cases hn : IsName c.name
  · rw [decide_eq_true hn] at hN
    by_cases he : colE c = 0
    · rw [decide_eq_true (show OkCol c from ⟨hn, he⟩)]
      rw [he] at hE
      simp -implicitDefEqProofs only [Tryd.f58,Wa,Wb,Wc,Wd,We,Wf,Wg,Wh,Wi,Wj,Wk,Wl,Wm,Wn,Zo,Zp,evalT,Nat.reduceLT,Nat.reduceEqDiff,if_true,if_false,reduceIte,Ys,ofVal,ofCell,argT,resT,setT,Y0,Int.reduceEq,Int.reduceLT,Int.reduceLE,Int.reduceNeg,mb,Nat.reduceBEq,tys,stb,Va,storeList,Nat.reduceAdd,Nat.reduceLeDiff,tysn,tys2,empty_mk,YW,agg44,load4_ptr (show ([AObj.cells [V.str c.name,V.int IntKind.i64 c.lo,V.int IntKind.i64 c.hi,c.w] 46] : List AObj)[0]? = some _ from rfl),hN,hE]
      simp [oneOr, sealDepth, sealV_bool]
    · rw [decide_eq_false (show ¬ OkCol c from fun h => he h.2)]
      have hne : ((colE c : Int) = 0) = False := eq_false he
      simp -implicitDefEqProofs only [Tryd.f58,Wa,Wb,Wc,Wd,We,Wf,Wg,Wh,Wi,Wj,Wk,Wl,Wm,Wn,Zo,Zp,evalT,Nat.reduceLT,Nat.reduceEqDiff,if_true,if_false,reduceIte,Ys,ofVal,ofCell,argT,resT,setT,Y0,Int.reduceEq,Int.reduceLT,Int.reduceLE,Int.reduceNeg,mb,Nat.reduceBEq,tys,stb,Va,storeList,Nat.reduceAdd,Nat.reduceLeDiff,tysn,tys2,empty_mk,YW,agg44,load4_ptr (show ([AObj.cells [V.str c.name,V.int IntKind.i64 c.lo,V.int IntKind.i64 c.hi,c.w] 46] : List AObj)[0]? = some _ from rfl),hN,hE,hne]
      simp [oneOr, sealDepth, sealV_bool]
  · rw [decide_eq_false hn] at hN
    rw [decide_eq_false (show ¬ OkCol c from fun h => hn h.1)]
    simp -implicitDefEqProofs only [Tryd.f58,Wa,Wb,Wc,Wd,We,Wf,Wg,Wh,Wi,Wj,Wk,Wl,Wm,Wn,Zo,Zp,evalT,Nat.reduceLT,Nat.reduceEqDiff,if_true,if_false,reduceIte,Ys,ofVal,ofCell,argT,resT,setT,Y0,Int.reduceEq,Int.reduceLT,Int.reduceLE,Int.reduceNeg,mb,Nat.reduceBEq,tys,stb,Va,storeList,Nat.reduceAdd,Nat.reduceLeDiff,tysn,tys2,empty_mk,YW,agg44,hN]
    simp [oneOr, sealDepth, sealV_bool]
theorem okCol_bounds {c : Col} (h : OkCol c) (hs : Short c) : c.lo ≤ c.hi ∧ -1000000 ≤ c.lo ∧ c.hi ≤ 1000000 := by
  obtain ⟨_, h⟩ := h
  have := hs.2.1
  unfold colE at h
  split at h
  · split at h
    · simp at h
    · rename_i h1; omega
  · split at h
    · simp at h
    · split at h
      · simp at h
      · split at h
        · simp at h
        · split at h
          · simp at h
          · rename_i h1; omega
open Classical in
theorem width_call (c : Col) (h : IsW c.w c.ws) (hs : Short c) (σ : S) : callFn env (ev env) 51 [aggC c] σ = some (.int .i64 (if OkCol c then c.hi - c.lo + 1 else 0), σ) := by
  refine callFn_pure rfl rfl (by simp [V.closed, V.closed.closedL, closed_W h]) at51 rfl (by simp [Tryd.f51]) (by simp [Tryd.f51]) (G_start ?_) σ
  have hV := valid_call c h hs
  simp only [aggC] at hV ⊢
  by_cases ho : OkCol c
  · obtain ⟨b1, b2, b3⟩ := okCol_bounds ho hs
    rw [decide_eq_true ho] at hV
    rw [if_pos ho]
    have e1 : IntKind.i64.wrap (c.hi - c.lo) = c.hi - c.lo := by rw [wrap_i64 (by omega) (by omega)]
    have e2 : IntKind.i64.wrap (c.hi - c.lo + 1) = c.hi - c.lo + 1 := by rw [wrap_i64 (by omega) (by omega)]
    simp -implicitDefEqProofs only [Tryd.f51,Wa,Wb,Wc,Wd,We,Wf,Wg,Wh,Wi,Wj,Wk,Wl,Wm,Wn,Zo,Zp,evalT,Nat.reduceLT,Nat.reduceEqDiff,if_true,if_false,reduceIte,Ys,ofVal,ofCell,argT,resT,setT,Y0,Int.reduceEq,Int.reduceLT,Int.reduceLE,Int.reduceNeg,mb,Nat.reduceBEq,tys,stb,Va,storeList,Nat.reduceAdd,Nat.reduceLeDiff,tysn,tys2,empty_mk,YW,agg44,load4_ptr (show ([AObj.cells [V.str c.name,V.int IntKind.i64 c.lo,V.int IntKind.i64 c.hi,c.w] 46] : List AObj)[0]? = some _ from rfl),hV,e1,e2]
    simp [oneOr, sealDepth, sealV_int]
  · rw [decide_eq_false ho] at hV
    rw [if_neg ho]
    simp -implicitDefEqProofs only [Tryd.f51,Wa,Wb,Wc,Wd,We,Wf,Wg,Wh,Wi,Wj,Wk,Wl,Wm,Wn,Zo,Zp,evalT,Nat.reduceLT,Nat.reduceEqDiff,if_true,if_false,reduceIte,Ys,ofVal,ofCell,argT,resT,setT,Y0,Int.reduceEq,Int.reduceLT,Int.reduceLE,Int.reduceNeg,mb,Nat.reduceBEq,tys,stb,Va,storeList,Nat.reduceAdd,Nat.reduceLeDiff,tysn,tys2,empty_mk,YW,agg44,load4_ptr (show ([AObj.cells [V.str c.name,V.int IntKind.i64 c.lo,V.int IntKind.i64 c.hi,c.w] 46] : List AObj)[0]? = some _ from rfl),hV]
    simp [oneOr, sealDepth, sealV_int]
open Classical in
theorem bad_call (c : Col) (h : IsW c.w c.ws) (hs : Short c) (σ : S) : callFn env (ev env) 50 [aggC c] σ = some (.bool (decide (¬ OkCol c)), σ) := by
  refine callFn_pure rfl rfl (by simp [V.closed, V.closed.closedL, closed_W h]) at50 rfl (by simp [Tryd.f50]) (by simp [Tryd.f50]) (G_start ?_) σ
  have hV := width_call c h hs
  simp only [aggC] at hV ⊢
  by_cases ho : OkCol c
  · obtain ⟨b1, b2, b3⟩ := okCol_bounds ho hs
    rw [if_pos ho] at hV
    have e1 : ((c.hi - c.lo + 1 : Int) = 0) = False := eq_false (by omega)
    rw [decide_eq_false (fun h => h ho)]
    simp -implicitDefEqProofs only [Tryd.f50,Wa,Wb,Wc,Wd,We,Wf,Wg,Wh,Wi,Wj,Wk,Wl,Wm,Wn,Zo,Zp,evalT,Nat.reduceLT,Nat.reduceEqDiff,if_true,if_false,reduceIte,Ys,ofVal,ofCell,argT,resT,setT,Y0,Int.reduceEq,Int.reduceLT,Int.reduceLE,Int.reduceNeg,mb,Nat.reduceBEq,tys,stb,Va,storeList,Nat.reduceAdd,Nat.reduceLeDiff,tysn,tys2,empty_mk,YW,agg44,load4_ptr (show ([AObj.cells [V.str c.name,V.int IntKind.i64 c.lo,V.int IntKind.i64 c.hi,c.w] 46] : List AObj)[0]? = some _ from rfl),hV,e1]
    simp [oneOr, sealDepth, sealV_bool]
  · rw [if_neg ho] at hV
    rw [decide_eq_true ho]
    simp -implicitDefEqProofs only [Tryd.f50,Wa,Wb,Wc,Wd,We,Wf,Wg,Wh,Wi,Wj,Wk,Wl,Wm,Wn,Zo,Zp,evalT,Nat.reduceLT,Nat.reduceEqDiff,if_true,if_false,reduceIte,Ys,ofVal,ofCell,argT,resT,setT,Y0,Int.reduceEq,Int.reduceLT,Int.reduceLE,Int.reduceNeg,mb,Nat.reduceBEq,tys,stb,Va,storeList,Nat.reduceAdd,Nat.reduceLeDiff,tysn,tys2,empty_mk,YW,agg44,load4_ptr (show ([AObj.cells [V.str c.name,V.int IntKind.i64 c.lo,V.int IntKind.i64 c.hi,c.w] 46] : List AObj)[0]? = some _ from rfl),hV]
    simp [oneOr, sealDepth, sealV_bool]
open Classical in
noncomputable def badAt (cs : List Col) (i : Nat) : Bool := decide (¬ OkCol (cs.getD i Col.none))
theorem firstQ_go {f : Nat → Bool} {n i : Nat} (h : i < n) : firstQ f (n - i) i = if f i = true then (i : Int) else firstQ f (n - (i + 1)) (i + 1) := firstQ_step h
theorem indexB_call (cv : V) (cs : List Col) (hc : IsC cv cs) (ok : OkC cs) (hl : cs.length ≤ 1000) (hs : ∀ i, i < cs.length → Short (cs.getD i Col.none)) (L : List AObj) (ts : List Nat) :
    callFn env (ev env) 72 [cv, .func 50 [] []] ⟨L, ts⟩ = some (.int .i64 (firstQ (badAt cs) cs.length 0), ⟨L, ts⟩) := by
  refine callFn_eq rfl rfl at72 rfl (by simp [Tryd.f72]) (by simp [Tryd.f72]) (G_start ?_)
  simp -implicitDefEqProofs only [Tryd.f72,Wa,Wb,Wc,Wd,We,Wf,Wg,Wh,Wi,Wj,Wk,Wl,Wm,Wn,Zo,Zp,evalT,Nat.reduceLT,Nat.reduceEqDiff,if_true,if_false,reduceIte,Ys,ofVal,ofCell,argT,resT,setT,Y0,Int.reduceEq,Int.reduceLT,Int.reduceLE,Int.reduceNeg,mb,Nat.reduceBEq,tys,stb,tys2,len_C hc]
  generalize hR : firstQ (badAt cs) cs.length 0 = R
  refine loop_rule (fun m T D σ => D = [] ∧ σ = ⟨L, ts⟩ ∧ T 0 = cv ∧ T 1 = .func 50 [] [] ∧ T 7 = .int .i64 cs.length ∧ ∃ (i : Nat), T 8 = .int .i64 i ∧ i ≤ cs.length ∧ m = cs.length - i ∧ firstQ (badAt cs) (cs.length - i) i = R) ?_ (cs.length - 0) _ _ _ ⟨rfl, rfl, rfl, rfl, rfl, 0, rfl, by omega, rfl, hR⟩
  clear hR
  rintro m T D σ ⟨rfl, rfl, t0, t1, t7, i, t8, hi, rfl, hf⟩
  refine G_start ?_
  by_cases hlt : i < cs.length
  · have c1 : (i : Int) < (cs.length : Int) := by omega
    have e1 : IntKind.i64.wrap ((i : Int) + 1) = ((i + 1 : Nat) : Int) := by rw [wrap_i64 (by omega) (by omega)]; omega
    have hx := idx_C hc hlt
    have hB := bad_call (cs.getD i Col.none) (ok.at hlt) (hs i hlt)
    rw [firstQ_go hlt] at hf
    change ∀ σ, callFn env (ev env) 50 _ σ = some (.bool (badAt cs i), σ) at hB
    simp only [aggC] at hB
    cases hb : badAt cs i with
    | true =>
      rw [hb] at hB hf
      simp only [if_true] at hf
      subst hf
      simp -implicitDefEqProofs only [Wa,Wb,Wc,Wd,We,Wf,Wg,Wh,Wi,Wj,Wk,Wl,Wm,Wn,Zo,Zp,evalT,Nat.reduceLT,Nat.reduceEqDiff,if_true,if_false,reduceIte,Ys,ofVal,ofCell,argT,resT,setT,Y0,Int.reduceEq,Int.reduceLT,Int.reduceLE,Int.reduceNeg,mb,Nat.reduceBEq,tys,stb,tys2,t0,t1,t7,t8,c1,hx,agg44,load4_rptr,hB,List.append_nil]
      simp [oneOr]
    | false =>
      rw [hb] at hB hf
      simp only [Bool.false_eq_true, if_false] at hf
      simp -implicitDefEqProofs only [Wa,Wb,Wc,Wd,We,Wf,Wg,Wh,Wi,Wj,Wk,Wl,Wm,Wn,Zo,Zp,evalT,Nat.reduceLT,Nat.reduceEqDiff,if_true,if_false,reduceIte,Ys,ofVal,ofCell,argT,resT,setT,Y0,Int.reduceEq,Int.reduceLT,Int.reduceLE,Int.reduceNeg,mb,Nat.reduceBEq,tys,stb,tys2,t0,t1,t7,t8,c1,e1,hx,agg44,load4_rptr,hB,List.append_nil]
      exact ⟨cs.length - (i + 1), by omega, i + 1, rfl, by omega, rfl, hf⟩
  · have hi2 : i = cs.length := by omega
    subst hi2
    have c1 : ¬ (cs.length : Int) < (cs.length : Int) := by omega
    rw [Nat.sub_self] at hf
    simp only [firstQ] at hf
    subst hf
    simp -implicitDefEqProofs only [Wa,Wb,Wc,Wd,We,Wf,Wg,Wh,Wi,Wj,Wk,Wl,Wm,Wn,Zo,Zp,evalT,Nat.reduceLT,Nat.reduceEqDiff,if_true,if_false,reduceIte,Ys,ofVal,ofCell,argT,resT,setT,Y0,Int.reduceEq,Int.reduceLT,Int.reduceLE,Int.reduceNeg,mb,Nat.reduceBEq,tys,stb,t0,t1,t7,t8,c1]
    simp [oneOr]
def Proper (cs : List Col) : Prop := ∀ i, i < cs.length → OkCol (cs.getD i Col.none)
open Classical in
theorem proper_first (cs : List Col) : 0 ≤ firstQ (badAt cs) cs.length 0 ↔ ¬ Proper cs := by
  rw [firstQ_pos]
  constructor
  · rintro ⟨j, _, h2, h3⟩ hP
    exact (of_decide_eq_true h3) (hP j (by omega))
  · intro hP
    apply Classical.byContradiction
    intro hn
    refine hP fun i hi => Classical.byContradiction fun hb => hn ⟨i, by omega, by omega, decide_eq_true hb⟩
open Classical in
theorem anybad_call (cv : V) (cs : List Col) (hc : IsC cv cs) (ok : OkC cs) (hl : cs.length ≤ 1000) (hs : ∀ i, i < cs.length → Short (cs.getD i Col.none)) (L : List AObj) (ts : List Nat) :
    callFn env (ev env) 49 [cv, .func 50 [] []] ⟨L, ts⟩ = some (.bool (decide (¬ Proper cs)), ⟨L, ts⟩) := by
  refine callFn_eq rfl rfl (by kernel_rfl : env.P.funcs[49]? = some Tryd.f49) rfl (by simp [Tryd.f49]) (by simp [Tryd.f49]) (G_start ?_)
  have hI := indexB_call cv cs hc ok hl hs L ts
  have hiff := proper_first cs
  by_cases hp : Proper cs
  · have h1 : ¬ (0 : Int) ≤ firstQ (badAt cs) cs.length 0 := fun h => (hiff.1 h) hp
    rw [decide_eq_false (fun h => h hp)]
    simp -implicitDefEqProofs only [Tryd.f49,Wa,Wb,Wc,Wd,We,Wf,Wg,Wh,Wi,Wj,Wk,Wl,Wm,Wn,Zo,Zp,evalT,Nat.reduceLT,Nat.reduceEqDiff,if_true,if_false,reduceIte,Ys,ofVal,ofCell,argT,resT,setT,Y0,Int.reduceEq,Int.reduceLT,Int.reduceLE,Int.reduceNeg,mb,Nat.reduceBEq,tys,stb,hI,h1]
    simp [oneOr]
  · have h1 : (0 : Int) ≤ firstQ (badAt cs) cs.length 0 := hiff.2 hp
    rw [decide_eq_true hp]
    simp -implicitDefEqProofs only [Tryd.f49,Wa,Wb,Wc,Wd,We,Wf,Wg,Wh,Wi,Wj,Wk,Wl,Wm,Wn,Zo,Zp,evalT,Nat.reduceLT,Nat.reduceEqDiff,if_true,if_false,reduceIte,Ys,ofVal,ofCell,argT,resT,setT,Y0,Int.reduceEq,Int.reduceLT,Int.reduceLE,Int.reduceNeg,mb,Nat.reduceBEq,tys,stb,hI,h1]
    simp [oneOr]
def Acc (l : List Nd) (cs : List Col) (cond : Bool) : Prop := exprE l cs cond = 0 ∧ Proper cs
open Classical in
theorem accepted_call (v : V) (l : List Nd) (hv : IsN v l) (hl : l.length ≤ 4000) (cv : V) (cs : List Col) (hc : IsC cv cs) (ok : OkC cs) (hcl : cs.length ≤ 1000) (hs : ∀ i, i < cs.length → Short (cs.getD i Col.none)) (cond : Bool) (σ : S) :
    callFn env (ev env) 32 [v, cv, .bool cond] σ = some (.bool (decide (Acc l cs cond)), σ) := by
  refine callFn_pure rfl rfl (by simp [V.closed, V.closed.closedL, closed_C hc ok, closed_N hv]) at32 rfl (by simp [Tryd.f32]) (by simp [Tryd.f32]) (G_start ?_) σ
  have hE := expr_call v l hv hl cv cs hc ok hcl (fun i hi => (hs i hi).2.1) cond
  have hB := anybad_call cv cs hc ok hcl hs [] []
  by_cases he : exprE l cs cond = 0
  · rw [he] at hE
    by_cases hp : Proper cs
    · rw [decide_eq_false (fun h => h hp)] at hB
      rw [decide_eq_true (show Acc l cs cond from ⟨he, hp⟩)]
      simp -implicitDefEqProofs only [Tryd.f32,Wa,Wb,Wc,Wd,We,Wf,Wg,Wh,Wi,Wj,Wk,Wl,Wm,Wn,Zo,Zp,evalT,Nat.reduceLT,Nat.reduceEqDiff,if_true,if_false,reduceIte,Ys,ofVal,ofCell,argT,resT,setT,Y0,Int.reduceEq,Int.reduceLT,Int.reduceLE,Int.reduceNeg,mb,Nat.reduceBEq,tys,stb,tysn,empty_mk,hE,hB,Bool.not_false]
      simp [oneOr, sealDepth, sealV_bool]
    · rw [decide_eq_true hp] at hB
      rw [decide_eq_false (show ¬ Acc l cs cond from fun h => hp h.2)]
      simp -implicitDefEqProofs only [Tryd.f32,Wa,Wb,Wc,Wd,We,Wf,Wg,Wh,Wi,Wj,Wk,Wl,Wm,Wn,Zo,Zp,evalT,Nat.reduceLT,Nat.reduceEqDiff,if_true,if_false,reduceIte,Ys,ofVal,ofCell,argT,resT,setT,Y0,Int.reduceEq,Int.reduceLT,Int.reduceLE,Int.reduceNeg,mb,Nat.reduceBEq,tys,stb,tysn,empty_mk,hE,hB,Bool.not_true]
      simp [oneOr, sealDepth, sealV_bool]
  · have hne : ((exprE l cs cond : Int) = 0) = False := eq_false he
    rw [decide_eq_false (show ¬ Acc l cs cond from fun h => he h.1)]
    simp -implicitDefEqProofs only [Tryd.f32,Wa,Wb,Wc,Wd,We,Wf,Wg,Wh,Wi,Wj,Wk,Wl,Wm,Wn,Zo,Zp,evalT,Nat.reduceLT,Nat.reduceEqDiff,if_true,if_false,reduceIte,Ys,ofVal,ofCell,argT,resT,setT,Y0,Int.reduceEq,Int.reduceLT,Int.reduceLE,Int.reduceNeg,mb,Nat.reduceBEq,tys,stb,tysn,empty_mk,hE,hne]
    simp [oneOr, sealDepth, sealV_bool]
open Classical in
theorem proper_call (cv : V) (cs : List Col) (hc : IsC cv cs) (ok : OkC cs) (hcl : cs.length ≤ 1000) (hs : ∀ i, i < cs.length → Short (cs.getD i Col.none)) (σ : S) :
    callFn env (ev env) 36 [cv] σ = some (.bool (decide (Proper cs)), σ) := by
  refine callFn_pure rfl rfl (by simp [V.closed, V.closed.closedL, closed_C hc ok]) at36 rfl (by simp [Tryd.f36]) (by simp [Tryd.f36]) (G_start ?_) σ
  simp -implicitDefEqProofs only [Tryd.f36,Wa,Wb,Wc,Wd,We,Wf,Wg,Wh,Wi,Wj,Wk,Wl,Wm,Wn,Zo,Zp,evalT,Nat.reduceLT,Nat.reduceEqDiff,if_true,if_false,reduceIte,Ys,ofVal,ofCell,argT,resT,setT,Y0,Int.reduceEq,Int.reduceLT,Int.reduceLE,Int.reduceNeg,mb,Nat.reduceBEq,tys,stb,tys2,empty_mk]
  refine loop_rule (fun m T D σ => D = [] ∧ σ = ⟨[], []⟩ ∧ T 0 = cv ∧ ∃ (i : Nat), T 3 = .int .i64 i ∧ i ≤ cs.length ∧ m = cs.length - i ∧ ∀ j, j < i → OkCol (cs.getD j Col.none)) ?_ (cs.length - 0) _ _ _ ⟨rfl, rfl, rfl, 0, rfl, by omega, rfl, fun j h => by omega⟩
  rintro m T D σ ⟨rfl, rfl, t0, i, t3, hi, rfl, hno⟩
  refine G_start ?_
  by_cases hlt : i < cs.length
  · have c1 : (i : Int) < (cs.length : Int) := by omega
    have e1 : IntKind.i64.wrap ((i : Int) + 1) = ((i + 1 : Nat) : Int) := by rw [wrap_i64 (by omega) (by omega)]; omega
    have hx := idx_C hc hlt
    have hV := validr_call (cs.getD i Col.none) (ok.at hlt) (hs i hlt)
    simp only [aggC] at hV
    by_cases ho : OkCol (cs.getD i Col.none)
    · rw [decide_eq_true ho] at hV
      simp -implicitDefEqProofs only [Wa,Wb,Wc,Wd,We,Wf,Wg,Wh,Wi,Wj,Wk,Wl,Wm,Wn,Zo,Zp,evalT,Nat.reduceLT,Nat.reduceEqDiff,if_true,if_false,reduceIte,Ys,ofVal,ofCell,argT,resT,setT,Y0,Int.reduceEq,Int.reduceLT,Int.reduceLE,Int.reduceNeg,mb,Nat.reduceBEq,tys,stb,tys2,t0,t3,c1,e1,len_C hc,hx,agg44,load4_rptr,hV,Bool.not_true]
      exact ⟨cs.length - (i + 1), by omega, i + 1, rfl, by omega, rfl, fun j hj => by
        rcases Nat.lt_or_ge j i with h2 | h2
        · exact hno j h2
        · have : j = i := by omega
          subst this; exact ho⟩
    · rw [decide_eq_false ho] at hV
      rw [decide_eq_false (show ¬ Proper cs from fun h => ho (h i hlt))]
      simp -implicitDefEqProofs only [Wa,Wb,Wc,Wd,We,Wf,Wg,Wh,Wi,Wj,Wk,Wl,Wm,Wn,Zo,Zp,evalT,Nat.reduceLT,Nat.reduceEqDiff,if_true,if_false,reduceIte,Ys,ofVal,ofCell,argT,resT,setT,Y0,Int.reduceEq,Int.reduceLT,Int.reduceLE,Int.reduceNeg,mb,Nat.reduceBEq,tys,stb,tys2,t0,t3,c1,e1,len_C hc,hx,agg44,load4_rptr,hV,Bool.not_false]
      simp [oneOr, sealDepth, sealV_bool]
  · have hi2 : i = cs.length := by omega
    subst hi2
    have c1 : ¬ (cs.length : Int) < (cs.length : Int) := by omega
    rw [decide_eq_true (show Proper cs from hno)]
    simp -implicitDefEqProofs only [Wa,Wb,Wc,Wd,We,Wf,Wg,Wh,Wi,Wj,Wk,Wl,Wm,Wn,Zo,Zp,evalT,Nat.reduceLT,Nat.reduceEqDiff,if_true,if_false,reduceIte,Ys,ofVal,ofCell,argT,resT,setT,Y0,Int.reduceEq,Int.reduceLT,Int.reduceLE,Int.reduceNeg,mb,Nat.reduceBEq,tys,stb,tys2,t0,t3,c1,len_C hc]
    simp [oneOr, sealDepth, sealV_bool]
end Go.Proofs.YtcjapamldllleaaDoor
namespace Go.Proofs.YtcjapamldllleaaDoor
open Go.Ab
set_option maxHeartbeats 4000000
set_option maxRecDepth 100000
set_option linter.unusedSimpArgs false
set_option linter.unusedVariables false
def IsI (v : V) (xs : List Int) : Prop := (v = .nilsl ∧ xs = []) ∨ v = .row (xs.map (V.int .i64)) xs.length .unk ∨ v = .row (xs.map (V.int .i64)) xs.length .full
theorem u24i : env.P.underlying 24 = some (.slice 3) := by kernel_rfl
theorem len_I {v : V} {xs : List Int} (h : IsI v xs) : vLenT (some (.slice 3)) v = some (.int .i64 xs.length) := by
  rcases h with ⟨rfl, rfl⟩ | rfl | rfl <;> rfl
theorem idx_I {v : V} {xs : List Int} (h : IsI v xs) {i : Nat} (hi : i < xs.length) : vIndexAddr 1 v (.int .i64 (i : Int)) = some (.rptr (.int .i64 (xs.getD i 0) :: (xs.map (V.int .i64)).drop (i + 1))) := by
  rcases h with ⟨rfl, rfl⟩ | rfl | rfl
  · simp at hi
  · rw [Ys, if_pos (by omega), Int.toNat_natCast, Nat.mul_one, List.drop_eq_getElem_cons (by simpa using hi)]
    simp [List.getD, hi]
  · rw [Ys, if_pos (by omega), Int.toNat_natCast, Nat.mul_one, List.drop_eq_getElem_cons (by simpa using hi)]
    simp [List.getD, hi]
theorem closed_I {v : V} {xs : List Int} (h : IsI v xs) : v.closed = true := by
  rcases h with ⟨rfl, rfl⟩ | h
  · rfl
  · have : ∀ ws : List Int, V.closed.closedL (ws.map (V.int .i64)) = true := by
      intro ws
      induction ws with
      | nil => rfl
      | cons w ws ih => simp only [List.map_cons, V.closed.closedL, V.closed, Bool.true_and]; exact ih
    rcases h with rfl | rfl <;> simp only [V.closed, this, Bool.and_self]
def Fits (cs : List Col) (xs : List Int) : Prop := xs.length = cs.length ∧ ∀ i, i < cs.length → (cs.getD i Col.none).lo ≤ xs.getD i 0 ∧ xs.getD i 0 ≤ (cs.getD i Col.none).hi
open Classical in
theorem fits_call (cv : V) (cs : List Col) (hc : IsC cv cs) (ok : OkC cs) (hcl : cs.length ≤ 1000) (v : V) (xs : List Int) (hv : IsI v xs) (hxl : xs.length ≤ 4000) (σ : S) :
    callFn env (ev env) 33 [cv, v] σ = some (.bool (decide (Fits cs xs)), σ) := by
  refine callFn_pure rfl rfl (by simp [V.closed, V.closed.closedL, closed_C hc ok, closed_I hv]) at33 rfl (by simp [Tryd.f33]) (by simp [Tryd.f33]) (G_start ?_) σ
  by_cases h1 : xs.length = cs.length
  case neg =>
    have c1 : ¬ (xs.length : Int) = (cs.length : Int) := by omega
    rw [decide_eq_false (show ¬ Fits cs xs from fun h => h1 h.1)]
    simp -implicitDefEqProofs only [Tryd.f33,Wa,Wb,Wc,Wd,We,Wf,Wg,Wh,Wi,Wj,Wk,Wl,Wm,Wn,Zo,Zp,evalT,Nat.reduceLT,Nat.reduceEqDiff,if_true,if_false,reduceIte,Ys,ofVal,ofCell,argT,resT,setT,Y0,Int.reduceEq,Int.reduceLT,Int.reduceLE,Int.reduceNeg,mb,Nat.reduceBEq,tys,stb,tysn,tys2,empty_mk,len_C hc,len_I hv,c1]
    simp [oneOr, sealDepth, sealV_bool]
  have c1 : (xs.length : Int) = (cs.length : Int) := by omega
  simp -implicitDefEqProofs only [Tryd.f33,Wa,Wb,Wc,Wd,We,Wf,Wg,Wh,Wi,Wj,Wk,Wl,Wm,Wn,Zo,Zp,evalT,Nat.reduceLT,Nat.reduceEqDiff,if_true,if_false,reduceIte,Ys,ofVal,ofCell,argT,resT,setT,Y0,Int.reduceEq,Int.reduceLT,Int.reduceLE,Int.reduceNeg,mb,Nat.reduceBEq,tys,stb,tysn,tys2,empty_mk,len_C hc,len_I hv,c1]
  refine loop_rule (fun m T D σ => D = [] ∧ T 0 = cv ∧ T 1 = v ∧ T 12 = cv ∧ T 13 = .int .i64 cs.length ∧ ∃ (L : List AObj) (i : Nat), σ = ⟨L, []⟩ ∧ T 14 = .int .i64 i ∧ i ≤ cs.length ∧ m = cs.length - i ∧ ∀ j, j < i → (cs.getD j Col.none).lo ≤ xs.getD j 0 ∧ xs.getD j 0 ≤ (cs.getD j Col.none).hi) ?_ (cs.length - 0) _ _ _
    ⟨rfl, rfl, rfl, rfl, rfl, _, 0, rfl, rfl, by omega, rfl, fun j h => by omega⟩
  rintro m T D σ ⟨rfl, t0, t1, t12, t13, L, i, rfl, t14, hi, rfl, hno⟩
  refine G_start ?_
  by_cases hlt : i < cs.length
  · have c2 : (i : Int) < (cs.length : Int) := by omega
    have e1 : IntKind.i64.wrap ((i : Int) + 1) = ((i + 1 : Nat) : Int) := by rw [wrap_i64 (by omega) (by omega)]; omega
    have hx := idx_C hc hlt
    have hy := idx_I hv (show i < xs.length by omega)
    have hic := isCell_W (ok.at hlt)
    have hnot : ∀ P : Prop, ((cs.getD i Col.none).lo ≤ xs.getD i 0 ∧ xs.getD i 0 ≤ (cs.getD i Col.none).hi → P) → (¬ P) → ¬ Fits cs xs := fun P h hn hF => hn (h (hF.2 i hlt))
    have hstep : (cs.getD i Col.none).lo ≤ xs.getD i 0 → xs.getD i 0 ≤ (cs.getD i Col.none).hi → ∀ j, j < i + 1 → (cs.getD j Col.none).lo ≤ xs.getD j 0 ∧ xs.getD j 0 ≤ (cs.getD j Col.none).hi := fun a b j hj => by
      rcases Nat.lt_or_ge j i with h2 | h2
      · exact hno j h2
      · have : j = i := by omega
        subst this; exact ⟨a, b⟩
    have hf : ¬ ((cs.getD i Col.none).lo ≤ xs.getD i 0 ∧ xs.getD i 0 ≤ (cs.getD i Col.none).hi) → decide (Fits cs xs) = false := fun h => decide_eq_false (fun hF => h (hF.2 i hlt))
    generalize cs.getD i Col.none = c at *
    generalize xs.getD i 0 = x at *
    by_cases h2 : x < c.lo
    · rw [hf (by omega)]
      simp -implicitDefEqProofs only [Wa,Wb,Wc,Wd,We,Wf,Wg,Wh,Wi,Wj,Wk,Wl,Wm,Wn,Zo,Zp,evalT,Nat.reduceLT,Nat.reduceEqDiff,if_true,if_false,reduceIte,Ys,ofVal,ofCell,argT,resT,setT,Y0,Int.reduceEq,Int.reduceLT,Int.reduceLE,Int.reduceNeg,mb,Nat.reduceBEq,tys,stb,Va,storeList,Nat.reduceAdd,Nat.reduceLeDiff,tysn,tys2,t0,t1,t12,t13,t14,c2,e1,hx,hy,agg44,load4_rptr,z44,heap_end,set_end,YW,isCell_str,isCell_int,hic,load_hd,h2]
      exact ⟨by kernel_rfl, by simp [oneOr, sealDepth, sealV_bool]⟩
    by_cases h3 : c.hi < x
    · rw [hf (by omega)]
      simp -implicitDefEqProofs only [Wa,Wb,Wc,Wd,We,Wf,Wg,Wh,Wi,Wj,Wk,Wl,Wm,Wn,Zo,Zp,evalT,Nat.reduceLT,Nat.reduceEqDiff,if_true,if_false,reduceIte,Ys,ofVal,ofCell,argT,resT,setT,Y0,Int.reduceEq,Int.reduceLT,Int.reduceLE,Int.reduceNeg,mb,Nat.reduceBEq,tys,stb,Va,storeList,Nat.reduceAdd,Nat.reduceLeDiff,tysn,tys2,t0,t1,t12,t13,t14,c2,e1,hx,hy,agg44,load4_rptr,z44,heap_end,set_end,YW,isCell_str,isCell_int,hic,load_hd,h2,h3]
      exact ⟨by kernel_rfl, by simp [oneOr, sealDepth, sealV_bool]⟩
    · simp -implicitDefEqProofs only [Wa,Wb,Wc,Wd,We,Wf,Wg,Wh,Wi,Wj,Wk,Wl,Wm,Wn,Zo,Zp,evalT,Nat.reduceLT,Nat.reduceEqDiff,if_true,if_false,reduceIte,Ys,ofVal,ofCell,argT,resT,setT,Y0,Int.reduceEq,Int.reduceLT,Int.reduceLE,Int.reduceNeg,mb,Nat.reduceBEq,tys,stb,Va,storeList,Nat.reduceAdd,Nat.reduceLeDiff,tysn,tys2,t0,t1,t12,t13,t14,c2,e1,hx,hy,agg44,load4_rptr,z44,heap_end,set_end,YW,isCell_str,isCell_int,hic,load_hd,h2,h3]
      exact ⟨by kernel_rfl, cs.length - (i + 1), by omega, _, i + 1, rfl, rfl, by omega, rfl, hstep (by omega) (by omega)⟩
  · have hi2 : i = cs.length := by omega
    subst hi2
    have c2 : ¬ (cs.length : Int) < (cs.length : Int) := by omega
    rw [decide_eq_true (show Fits cs xs from ⟨h1, hno⟩)]
    simp -implicitDefEqProofs only [Wa,Wb,Wc,Wd,We,Wf,Wg,Wh,Wi,Wj,Wk,Wl,Wm,Wn,Zo,Zp,evalT,Nat.reduceLT,Nat.reduceEqDiff,if_true,if_false,reduceIte,Ys,ofVal,ofCell,argT,resT,setT,Y0,Int.reduceEq,Int.reduceLT,Int.reduceLE,Int.reduceNeg,mb,Nat.reduceBEq,tys,stb,tys2,t0,t1,t12,t13,t14,c2]
    simp [oneOr, sealDepth, sealV_bool]
open Classical in
theorem fitsr_call (cv : V) (cs : List Col) (hc : IsC cv cs) (ok : OkC cs) (hcl : cs.length ≤ 1000) (v : V) (xs : List Int) (hv : IsI v xs) (hxl : xs.length ≤ 4000) (σ : S) :
    callFn env (ev env) 37 [cv, v] σ = some (.bool (decide (Fits cs xs)), σ) := by
  refine callFn_pure rfl rfl (by simp [V.closed, V.closed.closedL, closed_C hc ok, closed_I hv]) at37 rfl (by simp [Tryd.f37]) (by simp [Tryd.f37]) (G_start ?_) σ
  by_cases h1 : xs.length = cs.length
  case neg =>
    have c1 : ¬ (xs.length : Int) = (cs.length : Int) := by omega
    rw [decide_eq_false (show ¬ Fits cs xs from fun h => h1 h.1)]
    simp -implicitDefEqProofs only [Tryd.f37,Wa,Wb,Wc,Wd,We,Wf,Wg,Wh,Wi,Wj,Wk,Wl,Wm,Wn,Zo,Zp,evalT,Nat.reduceLT,Nat.reduceEqDiff,if_true,if_false,reduceIte,Ys,ofVal,ofCell,argT,resT,setT,Y0,Int.reduceEq,Int.reduceLT,Int.reduceLE,Int.reduceNeg,mb,Nat.reduceBEq,tys,stb,tysn,tys2,empty_mk,len_C hc,len_I hv,c1]
    simp [oneOr, sealDepth, sealV_bool]
  have c1 : (xs.length : Int) = (cs.length : Int) := by omega
  simp -implicitDefEqProofs only [Tryd.f37,Wa,Wb,Wc,Wd,We,Wf,Wg,Wh,Wi,Wj,Wk,Wl,Wm,Wn,Zo,Zp,evalT,Nat.reduceLT,Nat.reduceEqDiff,if_true,if_false,reduceIte,Ys,ofVal,ofCell,argT,resT,setT,Y0,Int.reduceEq,Int.reduceLT,Int.reduceLE,Int.reduceNeg,mb,Nat.reduceBEq,tys,stb,tysn,tys2,empty_mk,len_C hc,len_I hv,c1]
  refine loop_rule (fun m T D σ => D = [] ∧ T 0 = cv ∧ T 1 = v ∧ σ = ⟨[], []⟩ ∧ ∃ (i : Nat), T 5 = .int .i64 i ∧ i ≤ cs.length ∧ m = cs.length - i ∧ ∀ j, j < i → (cs.getD j Col.none).lo ≤ xs.getD j 0 ∧ xs.getD j 0 ≤ (cs.getD j Col.none).hi) ?_ (cs.length - 0) _ _ _
    ⟨rfl, rfl, rfl, rfl, 0, rfl, by omega, rfl, fun j h => by omega⟩
  rintro m T D σ ⟨rfl, t0, t1, rfl, i, t5, hi, rfl, hno⟩
  refine G_start ?_
  by_cases hlt : i < cs.length
  · have c2 : (i : Int) < (cs.length : Int) := by omega
    have e1 : IntKind.i64.wrap ((i : Int) + 1) = ((i + 1 : Nat) : Int) := by rw [wrap_i64 (by omega) (by omega)]; omega
    have hx := idx_C hc hlt
    have hy := idx_I hv (show i < xs.length by omega)
    have hstep : (cs.getD i Col.none).lo ≤ xs.getD i 0 → xs.getD i 0 ≤ (cs.getD i Col.none).hi → ∀ j, j < i + 1 → (cs.getD j Col.none).lo ≤ xs.getD j 0 ∧ xs.getD j 0 ≤ (cs.getD j Col.none).hi := fun a b j hj => by
      rcases Nat.lt_or_ge j i with h2 | h2
      · exact hno j h2
      · have : j = i := by omega
        subst this; exact ⟨a, b⟩
    have hf : ¬ ((cs.getD i Col.none).lo ≤ xs.getD i 0 ∧ xs.getD i 0 ≤ (cs.getD i Col.none).hi) → decide (Fits cs xs) = false := fun h => decide_eq_false (fun hF => h (hF.2 i hlt))
    generalize cs.getD i Col.none = c at *
    generalize xs.getD i 0 = x at *
    by_cases h2 : x < c.lo
    · rw [hf (by omega)]
      simp -implicitDefEqProofs only [Wa,Wb,Wc,Wd,We,Wf,Wg,Wh,Wi,Wj,Wk,Wl,Wm,Wn,Zo,Zp,evalT,Nat.reduceLT,Nat.reduceEqDiff,if_true,if_false,reduceIte,Ys,ofVal,ofCell,argT,resT,setT,Y0,Int.reduceEq,Int.reduceLT,Int.reduceLE,Int.reduceNeg,mb,Nat.reduceBEq,tys,stb,Va,storeList,Nat.reduceAdd,Nat.reduceLeDiff,tysn,tys2,t0,t1,t5,c1,c2,e1,len_I hv,hx,hy,load_hd,h2]
      exact ⟨by kernel_rfl, by simp [oneOr, sealDepth, sealV_bool]⟩
    by_cases h3 : c.hi < x
    · rw [hf (by omega)]
      simp -implicitDefEqProofs only [Wa,Wb,Wc,Wd,We,Wf,Wg,Wh,Wi,Wj,Wk,Wl,Wm,Wn,Zo,Zp,evalT,Nat.reduceLT,Nat.reduceEqDiff,if_true,if_false,reduceIte,Ys,ofVal,ofCell,argT,resT,setT,Y0,Int.reduceEq,Int.reduceLT,Int.reduceLE,Int.reduceNeg,mb,Nat.reduceBEq,tys,stb,Va,storeList,Nat.reduceAdd,Nat.reduceLeDiff,tysn,tys2,t0,t1,t5,c1,c2,e1,len_I hv,hx,hy,load_hd,h2,h3]
      exact ⟨by kernel_rfl, by simp [oneOr, sealDepth, sealV_bool]⟩
    · simp -implicitDefEqProofs only [Wa,Wb,Wc,Wd,We,Wf,Wg,Wh,Wi,Wj,Wk,Wl,Wm,Wn,Zo,Zp,evalT,Nat.reduceLT,Nat.reduceEqDiff,if_true,if_false,reduceIte,Ys,ofVal,ofCell,argT,resT,setT,Y0,Int.reduceEq,Int.reduceLT,Int.reduceLE,Int.reduceNeg,mb,Nat.reduceBEq,tys,stb,Va,storeList,Nat.reduceAdd,Nat.reduceLeDiff,tysn,tys2,t0,t1,t5,c1,c2,e1,len_I hv,hx,hy,load_hd,h2,h3]
      exact ⟨by kernel_rfl, cs.length - (i + 1), by omega, i + 1, rfl, by omega, rfl, hstep (by omega) (by omega)⟩
  · have hi2 : i = cs.length := by omega
    subst hi2
    have c2 : ¬ (cs.length : Int) < (cs.length : Int) := by omega
    rw [decide_eq_true (show Fits cs xs from ⟨h1, hno⟩)]
    simp -implicitDefEqProofs only [Wa,Wb,Wc,Wd,We,Wf,Wg,Wh,Wi,Wj,Wk,Wl,Wm,Wn,Zo,Zp,evalT,Nat.reduceLT,Nat.reduceEqDiff,if_true,if_false,reduceIte,Ys,ofVal,ofCell,argT,resT,setT,Y0,Int.reduceEq,Int.reduceLT,Int.reduceLE,Int.reduceNeg,mb,Nat.reduceBEq,tys,stb,tysn,tys2,t0,t1,t5,c1,c2,len_I hv]
    simp [oneOr, sealDepth, sealV_bool]
theorem at8 : env.P.funcs[8]? = some Tryd.f8 := by kernel_rfl
def Large (l : List Nd) (cs : List Col) (xs : List Int) : Prop := 300 < l.length ∨ 40 < cs.length ∨ 100 < xs.length ∨ Vast cs
open Classical in
theorem large_call (v : V) (l : List Nd) (hv : IsN v l) (hl : l.length < 2 ^ 63) (cv : V) (cs : List Col) (hc : IsC cv cs) (ok : OkC cs) (hcl : cs.length < 2 ^ 63) (xv : V) (xs : List Int) (hx : IsI xv xs) (hxl : xs.length < 2 ^ 63) (σ : S) :
    callFn env (ev env) 8 [v, cv, xv] σ = some (.bool (decide (Large l cs xs)), σ) := by
  refine callFn_pure rfl rfl (by simp [V.closed, V.closed.closedL, closed_C hc ok, closed_N hv, closed_I hx]) at8 rfl (by simp [Tryd.f8]) (by simp [Tryd.f8]) (G_start ?_) σ
  have hV := vast_call [] false 0 cv cs hc ok hcl
  by_cases h1 : (300 : Int) < (l.length : Int)
  · rw [decide_eq_true (show Large l cs xs from .inl (by omega))]
    simp -implicitDefEqProofs only [Tryd.f8,Wa,Wb,Wc,Wd,We,Wf,Wg,Wh,Wi,Wj,Wk,Wl,Wm,Wn,Zo,Zp,evalT,Nat.reduceLT,Nat.reduceEqDiff,if_true,if_false,reduceIte,Ys,ofVal,ofCell,argT,resT,setT,Y0,Int.reduceEq,Int.reduceLT,Int.reduceLE,Int.reduceNeg,mb,Nat.reduceBEq,tys,stb,tysn,tys2,empty_mk,len_N hv,h1]
    simp [oneOr, sealDepth, sealV_bool]
  by_cases h2 : (40 : Int) < (cs.length : Int)
  · rw [decide_eq_true (show Large l cs xs from .inr (.inl (by omega)))]
    simp -implicitDefEqProofs only [Tryd.f8,Wa,Wb,Wc,Wd,We,Wf,Wg,Wh,Wi,Wj,Wk,Wl,Wm,Wn,Zo,Zp,evalT,Nat.reduceLT,Nat.reduceEqDiff,if_true,if_false,reduceIte,Ys,ofVal,ofCell,argT,resT,setT,Y0,Int.reduceEq,Int.reduceLT,Int.reduceLE,Int.reduceNeg,mb,Nat.reduceBEq,tys,stb,tysn,tys2,empty_mk,len_N hv,len_C hc,h1,h2]
    simp [oneOr, sealDepth, sealV_bool]
  by_cases h3 : (100 : Int) < (xs.length : Int)
  · rw [decide_eq_true (show Large l cs xs from .inr (.inr (.inl (by omega))))]
    simp -implicitDefEqProofs only [Tryd.f8,Wa,Wb,Wc,Wd,We,Wf,Wg,Wh,Wi,Wj,Wk,Wl,Wm,Wn,Zo,Zp,evalT,Nat.reduceLT,Nat.reduceEqDiff,if_true,if_false,reduceIte,Ys,ofVal,ofCell,argT,resT,setT,Y0,Int.reduceEq,Int.reduceLT,Int.reduceLE,Int.reduceNeg,mb,Nat.reduceBEq,tys,stb,tysn,tys2,empty_mk,len_N hv,len_C hc,len_I hx,h1,h2,h3]
    simp [oneOr, sealDepth, sealV_bool]
  by_cases h4 : Vast cs
  · rw [decide_eq_true h4] at hV
    rw [decide_eq_true (show Large l cs xs from .inr (.inr (.inr h4)))]
    simp -implicitDefEqProofs only [Tryd.f8,Wa,Wb,Wc,Wd,We,Wf,Wg,Wh,Wi,Wj,Wk,Wl,Wm,Wn,Zo,Zp,evalT,Nat.reduceLT,Nat.reduceEqDiff,if_true,if_false,reduceIte,Ys,ofVal,ofCell,argT,resT,setT,Y0,Int.reduceEq,Int.reduceLT,Int.reduceLE,Int.reduceNeg,mb,Nat.reduceBEq,tys,stb,tysn,tys2,empty_mk,len_N hv,len_C hc,len_I hx,h1,h2,h3,build36 hc,hV]
    simp [oneOr, sealDepth, sealV_bool]
  · rw [decide_eq_false h4] at hV
    rw [decide_eq_false (show ¬ Large l cs xs from by rintro (h | h | h | h) <;> first | omega | exact h4 h)]
    simp -implicitDefEqProofs only [Tryd.f8,Wa,Wb,Wc,Wd,We,Wf,Wg,Wh,Wi,Wj,Wk,Wl,Wm,Wn,Zo,Zp,evalT,Nat.reduceLT,Nat.reduceEqDiff,if_true,if_false,reduceIte,Ys,ofVal,ofCell,argT,resT,setT,Y0,Int.reduceEq,Int.reduceLT,Int.reduceLE,Int.reduceNeg,mb,Nat.reduceBEq,tys,stb,tysn,tys2,empty_mk,len_N hv,len_C hc,len_I hx,h1,h2,h3,build36 hc,hV]
    simp [oneOr, sealDepth, sealV_bool]
end Go.Proofs.YtcjapamldllleaaDoor
