/- Proved here: the reference's run, and the law of values. Conditions: those of each theorem; no statement of the seat is proved in this text. -/
import Derived.Test.YtcjapamldllleaaDoorSqC
namespace Go.Proofs.YtcjapamldllleaaDoor
open Go.Ab
set_option maxHeartbeats 4000000
set_option maxRecDepth 100000
set_option linter.unusedSimpArgs false
set_option linter.unusedVariables false
theorem at38 : env.P.funcs[38]? = some Tryd.f38 := by kernel_rfl
theorem mb38 (r : Nat) : env.mutb 38 r = true := rfl
theorem SI.setat {L : List AObj} {sv : V} {vs : List Int} (h : SI L sv vs) (ts : List Nat) {i : Nat} (hi : i < vs.length) : ∃ p, vIndexAddr 1 sv (.int .i64 i) = some p ∧ (loadCellsV L 1 p).bind (·[0]?) = some (.int .i64 (vs.getD i 0)) ∧ ∀ y, ∃ L', storeCellsV ⟨L, ts⟩ [.int .i64 y] p = some ⟨L', ts⟩ ∧ SI L' sv (vs.set i y) := by
  obtain ⟨p, hp, hpl⟩ := rd_idx h.rd hi
  refine ⟨p, hp, hpl, fun y => ?_⟩
  obtain ⟨hl, ⟨rfl, h0⟩ | ⟨b, cap, cs, rfl, hbk, h1, h2, h3⟩⟩ := h
  · omega
  · have hpp : p = .ptr b i := by
      have : vIndexAddr 1 (.hsl b 0 vs.length cap (.grow 1)) (.int .i64 i) = some (.ptr b i) := by simp [vIndexAddr, hi]
      rw [this] at hp; exact (Option.some.inj hp).symm
    subst hpp
    have hblt := lt_get hbk
    have hst : storeList cs i [.int .i64 y] = cs.set i (.int .i64 y) := by
      rw [storeList, List.set_eq_take_append_cons_drop, if_pos (by omega)]
      simp
    refine ⟨L.set b (.cells (storeList cs i [.int .i64 y]) 3), ?_, ?_⟩
    · simp only [storeCellsV, hbk]
      rw [if_pos ⟨by simp; omega, rfl⟩]
      rfl
    · rw [hst]
      refine ⟨by simp, .inr ⟨b, cap, cs.set i (.int .i64 y), by simp, by simp [hblt], by simpa using h1, by simpa using h2, ?_⟩⟩
      rw [List.length_set, List.map_set, ← h3, List.take_set]
theorem getD_drop' (vs : List Int) (m j : Nat) : (vs.drop m).getD j 0 = vs.getD (m + j) 0 := by simp [List.getD]
theorem set_last {vs : List Int} {n : Nat} (h : vs.length = n + 1) (y : Int) : vs.set n y = vs.take n ++ [y] := by
  rw [List.set_eq_take_append_cons_drop, if_pos (by omega), List.drop_of_length_le (by omega)]
theorem place_first (ws : List (List UInt8)) (s : List UInt8) : ∀ m i, 0 ≤ placeW ws s m i → ∃ j : Nat, placeW ws s m i = (j : Int) ∧ i ≤ j ∧ j < i + m ∧ ws.getD j [] = s ∧ ∀ k, i ≤ k → k < j → ws.getD k [] ≠ s
  | 0, i, h => by simp [placeW] at h
  | m + 1, i, h => by
    simp only [placeW] at h ⊢
    by_cases e : s = ws.getD i []
    · rw [if_pos e]
      exact ⟨i, rfl, Nat.le_refl _, by omega, e.symm, fun k h1 h2 => by omega⟩
    · rw [if_neg e] at h ⊢
      obtain ⟨j, h1, h2, h3, h4, h5⟩ := place_first ws s m (i + 1) h
      refine ⟨j, h1, by omega, by omega, h4, fun k h6 h7 => ?_⟩
      rcases Nat.lt_or_ge i k with h8 | h8
      · exact h5 k h8 h7
      · have : k = i := by omega
        subst this; exact fun h => e h.symm
theorem eval_call (v : V) (l : List Nd) (hv : IsN v l) (hl : l.length ≤ 1000) (cv : V) (cs : List Col) (hc : IsC cv cs) (ok : OkC cs) (hcl : cs.length ≤ 1000) (hw : ∀ nm, (colN cs nm).ws.length ≤ 1000) (xv : V) (xs : List Int) (hx : IsI xv xs) (hxl : xs.length = cs.length) (hin : ∀ x ∈ xs, In64 x) (cond : Bool) (hE : exprE l cs cond = 0) (σ : S) :
    callFn env (ev env) 38 [v, cv, xv] σ = some (.int .i64 (runV l cs xs), σ) := by
  have hxc' := closed_I hx
  refine callFn_pure rfl rfl (by simp [V.closed, V.closed.closedL, closed_C hc ok, closed_N hv, hxc']) at38 rfl (by simp [Tryd.f38]) (by simp [Tryd.f38]) (G_start ?_) σ
  have hR0 := exprE_zero hE
  unfold runV
  generalize hR : exprL l cs l.length 0 [] = R at hR0
  obtain ⟨r1, r2, _⟩ := hR0
  generalize hW : runL l cs xs l.length 0 [] = W
  have hln := len_N hv
  simp -implicitDefEqProofs only [Tryd.f38,Wa,Wb,Wc,Wd,We,Wf,Wg,Wh,Wi,Wj,Wk,Wl,Wm,Wn,Zo,Zp,evalT,Nat.reduceLT,Nat.reduceEqDiff,if_true,if_false,reduceIte,Ys,ofVal,ofCell,argT,resT,setT,Y0,Int.reduceEq,Int.reduceLT,Int.reduceLE,Int.reduceNeg,mb,Nat.reduceBEq,tys,stb,tysn,empty_mk]
  refine loop_rule (fun m T D σ => D = [] ∧ T 0 = v ∧ T 1 = cv ∧ T 2 = xv ∧ ∃ (L : List AObj) (ts : List Nat) (i : Nat) (st vs : List Int) (sv : V) (jv : Int), σ = ⟨L, ts⟩ ∧ T 7 = sv ∧ T 8 = .int .i64 jv ∧ (1 ≤ i → (gN l (i - 1)).op = 2 → jv = seekK cs (gN l (i - 1)).col) ∧ SI L sv vs ∧ Tys st vs ∧
    T 9 = .int .i64 i ∧ i ≤ l.length ∧ m = l.length - i ∧ vs.length ≤ i ∧ exprL l cs (l.length - i) i st = R ∧ runL l cs xs (l.length - i) i vs = W) ?_ (l.length - 0) _ _ _ ⟨rfl, rfl, rfl, rfl, [], [], 0, [], [], .nilsl, 0, rfl, rfl, rfl, fun h => by omega, .nil _ _ _, trivial, rfl, by omega, rfl, by simp, hR, hW⟩
  clear hR hW
  rintro m T D σ ⟨rfl, t0, t1, t2, L, ts, i, st, vs, sv, jv, rfl, t7, t8, hjv, hS, hT, t9, hi, rfl, hvl, hR, hW⟩
  refine G_start ?_
  by_cases hlt : i < l.length
  · have c1 : (i : Int) < (l.length : Int) := by omega
    have e1 : IntKind.i64.wrap ((i : Int) + 1) = ((i + 1 : Nat) : Int) := by rw [wrap_i64 (by omega) (by omega)]; omega
    have hxn := idx_N hv hlt
    change vIndexAddr 3 v (.int .i64 i) = some (.rptr (.int .i64 (gN l i).op :: .int .i64 (gN l i).n :: .str (gN l i).col :: _)) at hxn
    have hobj : (AObj.cells [V.int IntKind.i64 (gN l i).op, V.int IntKind.i64 (gN l i).n, V.str (gN l i).col] 52) = objN (gN l i) := rfl
    obtain ⟨q, hq⟩ : ∃ q, l.length - i = q + 1 := ⟨l.length - i - 1, by omega⟩
    have hq2 : q = l.length - (i + 1) := by omega
    rw [hq] at hR hW
    obtain ⟨hn, st', hp, hstep⟩ := exprL_ok (hR ▸ r1)
    rw [hR] at hstep
    obtain ⟨hT2, s2, s3, s4⟩ := step_ok hn hp hT hin hw
    simp only [runL] at hW
    obtain ⟨o1, o2⟩ := nodeE_op hn
    have hS1 := hS.more [objN (gN l i)]
    have hlen := hS1.len 3
    have fin : ∀ (v' : V) (L' : List AObj) (ts' : List Nat) (jv' : Int), ((gN l i).op = 2 → jv' = seekK cs (gN l i).col) → SI L' v' (stepV l i cs xs vs) → (stepV l i cs xs vs).length ≤ i + 1 →
        ∃ m', m' < l.length - i ∧ ∃ (L : List AObj) (ts_1 : List Nat) (i_1 : Nat) (st vs : List Int) (sv : V) (jv : Int), (⟨L', ts'⟩ : S) = ⟨L, ts_1⟩ ∧ v' = sv ∧ V.int .i64 jv' = .int .i64 jv ∧ (1 ≤ i_1 → (gN l (i_1 - 1)).op = 2 → jv = seekK cs (gN l (i_1 - 1)).col) ∧ SI L sv vs ∧ Tys st vs ∧ V.int .i64 ((i + 1 : Nat) : Int) = .int .i64 i_1 ∧ i_1 ≤ l.length ∧ m' = l.length - i_1 ∧ vs.length ≤ i_1 ∧ exprL l cs (l.length - i_1) i_1 st = R ∧ runL l cs xs (l.length - i_1) i_1 vs = W :=
      fun v' L' ts' jv' hj hS' hln => ⟨l.length - (i + 1), by omega, L', ts', i + 1, _, _, v', jv', rfl, rfl, rfl, fun _ h => by rw [Nat.add_sub_cancel] at h ⊢; exact hj h, hS', hT2, rfl, by omega, rfl, hln, by rw [← hq2, ← hstep], by rw [← hq2]; exact hW⟩
    have ld1 := ld_op (gN l i)
    have ld2 := ld_n (gN l i)
    have ld3 := ld_col (gN l i)
    by_cases h1 : (gN l i).op = 1
    · have g1 : (((gN l i).op : Int) = 1) = True := eq_true h1
      have hstv : stepV l i cs xs vs = vs ++ [(gN l i).n] := by unfold stepV; rw [if_pos h1]
      obtain ⟨v', L', hA, hS', _⟩ := hS1.push ts (gN l i).n (by omega)
      simp -implicitDefEqProofs only [Wa,Wb,Wc,Wd,We,Wf,Wg,Wh,Wi,Wj,Wk,Wl,Wm,Wn,Zo,Zp,evalT,Nat.reduceLT,Nat.reduceEqDiff,if_true,if_false,reduceIte,Ys,ofVal,ofCell,argT,resT,setT,Y0,Int.reduceEq,Int.reduceLT,Int.reduceLE,Int.reduceNeg,mb,Nat.reduceBEq,tys,stb,Va,storeList,Nat.reduceAdd,Nat.reduceLeDiff,tysn,t0,t1,t2,t7,t8,t9,hln,hlen,c1,e1,hxn,load3_rptr,YW,isCell_int,isCell_str,hobj,set_end,heap_end,ld1,ld2,g1,build_i,hA,mb38]
      exact fin v' L' _ jv (fun h => by omega) (by rw [hstv]; exact hS') (by rw [hstv]; simp; omega)
    have g1 : (((gN l i).op : Int) = 1) = False := eq_false h1
    by_cases h2 : (gN l i).op = 2
    · have g2 : (((gN l i).op : Int) = 2) = True := eq_true h2
      have hstv : stepV l i cs xs vs = vs ++ [xs.getD (seekK cs (gN l i).col).toNat 0] := by unfold stepV; rw [if_neg h1, if_pos h2]
      obtain ⟨j, k1, k2, k3⟩ := colN_at (s2 h2)
      rw [k1, Int.toNat_natCast] at hstv
      simp -implicitDefEqProofs only [Wa,Wb,Wc,Wd,We,Wf,Wg,Wh,Wi,Wj,Wk,Wl,Wm,Wn,Zo,Zp,evalT,Nat.reduceLT,Nat.reduceEqDiff,if_true,if_false,reduceIte,Ys,ofVal,ofCell,argT,resT,setT,Y0,Int.reduceEq,Int.reduceLT,Int.reduceLE,Int.reduceNeg,mb,Nat.reduceBEq,tys,stb,Va,storeList,Nat.reduceAdd,Nat.reduceLeDiff,tysn,tys2,t0,t1,t2,t7,t8,t9,hln,hlen,c1,e1,hxn,load3_rptr,YW,isCell_int,isCell_str,hobj,set_end,heap_end,ld1,ld2,ld3,g1,g2,build_i,mb38]
      obtain ⟨-, hfi⟩ : True ∧ ∀ k, k < j → (cs.getD k Col.none).name ≠ (gN l i).col := ⟨trivial, by
        rcases seekK_spec cs (gN l i).col with h | ⟨j', h, hj', hn', hf'⟩
        · omega
        · have : j' = j := by omega
          subst this; exact hf'⟩
      have hnj : (cs.getD j Col.none).name = (gN l i).col := by
        rcases seekK_spec cs (gN l i).col with h | ⟨j', h, hj', hn', hf'⟩
        · omega
        · have : j' = j := by omega
          subst this; exact hn'
      refine loop_rule (fun m T D σ => D = [] ∧ σ = ⟨L ++ [objN (gN l i)], ts⟩ ∧ T 0 = v ∧ T 1 = cv ∧ T 2 = xv ∧ T 7 = sv ∧ T 9 = .int .i64 i ∧ T 10 = .ptr L.length 0 ∧ ∃ k : Nat, T 8 = .int .i64 k ∧ k ≤ j ∧ m = j - k) ?_ (j - 0) _ _ _ ⟨rfl, rfl, t0, t1, t2, t7, t9, rfl, 0, rfl, by omega, rfl⟩
      rintro m T' D σ ⟨rfl, rfl, u0, u1, u2, u7, u9, u10, k, u8, hkj, rfl⟩
      refine G_start ?_
      have hxk := idx_C hc (show k < cs.length by omega)
      have e2 : IntKind.i64.wrap ((k : Int) + 1) = ((k + 1 : Nat) : Int) := by rw [wrap_i64 (by omega) (by omega)]; omega
      by_cases hkk : k = j
      · subst hkk
        have gn : (((cs.getD k Col.none).name : List UInt8) = (gN l i).col) = True := eq_true hnj
        have hxv := idx_I hx (show k < xs.length by omega)
        obtain ⟨v', L', hA, hS', _⟩ := hS1.push ts (xs.getD k 0) (by omega)
        simp -implicitDefEqProofs only [Wa,Wb,Wc,Wd,We,Wf,Wg,Wh,Wi,Wj,Wk,Wl,Wm,Wn,Zo,Zp,evalT,Nat.reduceLT,Nat.reduceEqDiff,if_true,if_false,reduceIte,Ys,ofVal,ofCell,argT,resT,setT,Y0,Int.reduceEq,Int.reduceLT,Int.reduceLE,Int.reduceNeg,mb,Nat.reduceBEq,tys,stb,Va,storeList,Nat.reduceAdd,Nat.reduceLeDiff,tysn,tys2,u0,u1,u2,u7,u8,u9,u10,hlen,e1,hxk,hxv,load_hd,heap_end,ld1,ld2,ld3,gn,vBin_sneq,build_i,hA,mb38]
        exact ⟨by kernel_rfl, fin v' L' _ _ (fun _ => k1.symm) (by rw [hstv]; exact hS') (by rw [hstv]; simp; omega)⟩
      · have gn : (((cs.getD k Col.none).name : List UInt8) = (gN l i).col) = False := eq_false (hfi k (by omega))
        simp -implicitDefEqProofs only [Wa,Wb,Wc,Wd,We,Wf,Wg,Wh,Wi,Wj,Wk,Wl,Wm,Wn,Zo,Zp,evalT,Nat.reduceLT,Nat.reduceEqDiff,if_true,if_false,reduceIte,Ys,ofVal,ofCell,argT,resT,setT,Y0,Int.reduceEq,Int.reduceLT,Int.reduceLE,Int.reduceNeg,mb,Nat.reduceBEq,tys,stb,Va,storeList,Nat.reduceAdd,Nat.reduceLeDiff,tysn,tys2,u0,u1,u2,u7,u8,u9,u10,hlen,e2,hxk,load_hd,heap_end,ld1,ld2,ld3,gn,vBin_sneq,build_i,mb38]
        exact ⟨by kernel_rfl, j - (k + 1), by omega, k + 1, rfl, by omega, rfl⟩
    have g2 : (((gN l i).op : Int) = 2) = False := eq_false h2
    by_cases h3 : (gN l i).op = 3
    · have g3 : (((gN l i).op : Int) = 3) = True := eq_true h3
      have hstv : stepV l i cs xs vs = vs ++ [wordV l i cs] := by unfold stepV; rw [if_neg h1, if_neg h2, if_pos h3]
      obtain ⟨w1, w2, w3⟩ := s3 h3
      have hk0 : 0 ≤ seekK cs (gN l (i - 1)).col := Classical.byContradiction fun h => by unfold colN at w3; rw [if_neg h] at w3; simp [Col.none] at w3
      obtain ⟨j, k1, k2, k3⟩ := colN_at hk0
      have hj := hjv w1 w2
      rw [k1] at hj
      subst hj
      have hxc := idx_C hc k2
      have hWr := W_row (colN_W ok (gN l (i - 1)).col) w3
      rw [← k3] at hxc
      have hwl := hw (gN l (i - 1)).col
      obtain ⟨p, p1, _, p2, p3, p4⟩ := place_first (colN cs (gN l (i - 1)).col).ws (gN l i).col (colN cs (gN l (i - 1)).col).ws.length 0 ((place_mem _ _).2 w3)
      have p1 : wordV l i cs = (p : Int) := p1
      rw [p1] at hstv
      generalize colN cs (gN l (i - 1)).col = c at *
      simp -implicitDefEqProofs only [Wa,Wb,Wc,Wd,We,Wf,Wg,Wh,Wi,Wj,Wk,Wl,Wm,Wn,Zo,Zp,evalT,Nat.reduceLT,Nat.reduceEqDiff,if_true,if_false,reduceIte,Ys,ofVal,ofCell,argT,resT,setT,Y0,Int.reduceEq,Int.reduceLT,Int.reduceLE,Int.reduceNeg,mb,Nat.reduceBEq,tys,stb,Va,storeList,Nat.reduceAdd,Nat.reduceLeDiff,tysn,tys2,t0,t1,t2,t7,t8,t9,hln,hlen,c1,e1,hxn,load3_rptr,YW,isCell_int,isCell_str,hobj,set_end,heap_end,ld1,ld2,ld3,g1,g2,g3,build_i,mb38]
      refine loop_rule (fun m T D σ => D = [] ∧ σ = ⟨L ++ [objN (gN l i)], ts⟩ ∧ T 0 = v ∧ T 1 = cv ∧ T 2 = xv ∧ T 7 = sv ∧ T 8 = .int .i64 j ∧ T 9 = .int .i64 i ∧ T 10 = .ptr L.length 0 ∧ ∃ k : Nat, T 12 = .int .i64 k ∧ k ≤ p ∧ m = p - k) ?_ (p - 0) _ _ _ ⟨rfl, rfl, t0, t1, t2, t7, t8, t9, rfl, 0, rfl, by omega, rfl⟩
      rintro m T' D σ ⟨rfl, rfl, u0, u1, u2, u7, u8, u9, u10, k, u12, hkj, rfl⟩
      refine G_start ?_
      have hxk : vIndexAddr 1 c.w (.int .i64 k) = some (.rptr (.str (c.ws.getD k []) :: (c.ws.map V.str).drop (k + 1))) := by
        rw [hWr, Ys, if_pos (by omega), Int.toNat_natCast, Nat.mul_one, List.drop_eq_getElem_cons (by simp; omega)]
        simp [List.getD, show k < c.ws.length by omega]
      have e2 : IntKind.i64.wrap ((k : Int) + 1) = ((k + 1 : Nat) : Int) := by rw [wrap_i64 (by omega) (by omega)]; omega
      by_cases hkk : k = p
      · subst hkk
        have gn : ((c.ws.getD k [] : List UInt8) = (gN l i).col) = True := eq_true p3
        obtain ⟨v', L', hA, hS', _⟩ := hS1.push ts (k : Int) (by omega)
        simp -implicitDefEqProofs only [Wa,Wb,Wc,Wd,We,Wf,Wg,Wh,Wi,Wj,Wk,Wl,Wm,Wn,Zo,Zp,evalT,Nat.reduceLT,Nat.reduceEqDiff,if_true,if_false,reduceIte,Ys,ofVal,ofCell,argT,resT,setT,Y0,Int.reduceEq,Int.reduceLT,Int.reduceLE,Int.reduceNeg,mb,Nat.reduceBEq,tys,stb,Va,storeList,Nat.reduceAdd,Nat.reduceLeDiff,tysn,tys2,u0,u1,u2,u7,u8,u9,u10,u12,hlen,e1,hxk,hxc,load_hd,heap_end,ld1,ld2,ld3,gn,vBin_sneq,build_i,hA,mb38]
        exact ⟨by kernel_rfl, fin v' L' _ _ (fun h => by omega) (by rw [hstv]; exact hS') (by rw [hstv]; simp; omega)⟩
      · have gn : ((c.ws.getD k [] : List UInt8) = (gN l i).col) = False := eq_false (p4 k (by omega) (by omega))
        simp -implicitDefEqProofs only [Wa,Wb,Wc,Wd,We,Wf,Wg,Wh,Wi,Wj,Wk,Wl,Wm,Wn,Zo,Zp,evalT,Nat.reduceLT,Nat.reduceEqDiff,if_true,if_false,reduceIte,Ys,ofVal,ofCell,argT,resT,setT,Y0,Int.reduceEq,Int.reduceLT,Int.reduceLE,Int.reduceNeg,mb,Nat.reduceBEq,tys,stb,Va,storeList,Nat.reduceAdd,Nat.reduceLeDiff,tysn,tys2,u0,u1,u2,u7,u8,u9,u10,u12,hlen,e2,hxk,hxc,load_hd,heap_end,ld1,ld2,ld3,gn,vBin_sneq,build_i,mb38]
        exact ⟨by kernel_rfl, p - (k + 1), by omega, k + 1, rfl, by omega, rfl⟩
    have g3 : (((gN l i).op : Int) = 3) = False := eq_false h3
    have o4 : 4 ≤ (gN l i).op := by omega
    obtain ⟨a1, a2⟩ := s4 o4
    have hstv : stepV l i cs xs vs = vs.take (vs.length - (arI (gN l i).op).toNat) ++ [opV (gN l i).op (vs.drop (vs.length - (arI (gN l i).op).toNat))] := by unfold stepV; rw [if_neg h1, if_neg h2, if_neg h3]
    have e3 : ∀ k : Nat, k ≤ vs.length → IntKind.i64.wrap ((vs.length : Int) - (k : Int)) = ((vs.length - k : Nat) : Int) := fun k hk => by rw [wrap_i64 (by omega) (by omega)]; omega
    by_cases h7 : (gN l i).op = 7
    · have g7 : (((gN l i).op : Int) = 7) = True := eq_true h7
      rw [h7] at a1 a2 hstv
      change 1 ≤ vs.length at a1
      have e1' := e3 1 a1
      change IntKind.i64.wrap ((vs.length : Int) - 1) = _ at e1'
      change Tys [0] (vs.drop (vs.length - 1)) at a2
      change stepV l i cs xs vs = vs.take (vs.length - 1) ++ [opV 7 (vs.drop (vs.length - 1))] at hstv
      obtain ⟨x, hx1, _⟩ := Tys.one a2
      have hxg : vs.getD (vs.length - 1) 0 = x := by rw [← Nat.add_zero (vs.length - 1), ← getD_drop', hx1]; rfl
      obtain ⟨p, hp1, hp2, hp3⟩ := hS1.setat ts (show vs.length - 1 < vs.length by omega)
      obtain ⟨L', hst, hS'⟩ := hp3 (wr (0 - x))
      rw [set_last (n := vs.length - 1) (by omega)] at hS'
      rw [hxg] at hp2
      rw [hx1] at hstv
      change stepV l i cs xs vs = vs.take (vs.length - 1) ++ [wr (0 - x)] at hstv
      have hst : storeCellsV ⟨L ++ [objN (gN l i)], ts⟩ [.int .i64 (IntKind.i64.wrap (0 - x))] p = some ⟨L', ts⟩ := hst
      simp -implicitDefEqProofs only [Wa,Wb,Wc,Wd,We,Wf,Wg,Wh,Wi,Wj,Wk,Wl,Wm,Wn,Zo,Zp,evalT,Nat.reduceLT,Nat.reduceEqDiff,if_true,if_false,reduceIte,Ys,ofVal,ofCell,argT,resT,setT,Y0,Int.reduceEq,Int.reduceLT,Int.reduceLE,Int.reduceNeg,mb,Nat.reduceBEq,tys,stb,Va,storeList,Nat.reduceAdd,Nat.reduceLeDiff,tysn,tys2,t0,t1,t2,t7,t8,t9,hln,hlen,c1,e1,e1',hxn,load3_rptr,YW,isCell_int,isCell_str,hobj,set_end,heap_end,ld1,ld2,ld3,g1,g2,g3,g7,hp1,hp2,hst,build_i,mb38]
      trace_state
      exact fin sv L' _ jv (fun h => by omega) (by rw [hstv]; exact hS') (by rw [hstv, List.length_append, List.length_take]; simp; omega)
    have g7 : (((gN l i).op : Int) = 7) = False := eq_false h7
    by_cases h17 : (gN l i).op = 17
    · have g17 : (((gN l i).op : Int) = 17) = True := eq_true h17
      rw [h17] at a1 a2 hstv
      change 1 ≤ vs.length at a1
      have e1' := e3 1 a1
      change IntKind.i64.wrap ((vs.length : Int) - 1) = _ at e1'
      change Tys [1] (vs.drop (vs.length - 1)) at a2
      change stepV l i cs xs vs = vs.take (vs.length - 1) ++ [opV 17 (vs.drop (vs.length - 1))] at hstv
      obtain ⟨x, hx1, _⟩ := Tys.one a2
      have hxg : vs.getD (vs.length - 1) 0 = x := by rw [← Nat.add_zero (vs.length - 1), ← getD_drop', hx1]; rfl
      obtain ⟨p, hp1, hp2, hp3⟩ := hS1.setat ts (show vs.length - 1 < vs.length by omega)
      obtain ⟨L', hst, hS'⟩ := hp3 (wr (1 - x))
      rw [set_last (n := vs.length - 1) (by omega)] at hS'
      rw [hxg] at hp2
      rw [hx1] at hstv
      change stepV l i cs xs vs = vs.take (vs.length - 1) ++ [wr (1 - x)] at hstv
      have hst : storeCellsV ⟨L ++ [objN (gN l i)], ts⟩ [.int .i64 (IntKind.i64.wrap (1 - x))] p = some ⟨L', ts⟩ := hst
      simp -implicitDefEqProofs only [Wa,Wb,Wc,Wd,We,Wf,Wg,Wh,Wi,Wj,Wk,Wl,Wm,Wn,Zo,Zp,evalT,Nat.reduceLT,Nat.reduceEqDiff,if_true,if_false,reduceIte,Ys,ofVal,ofCell,argT,resT,setT,Y0,Int.reduceEq,Int.reduceLT,Int.reduceLE,Int.reduceNeg,mb,Nat.reduceBEq,tys,stb,Va,storeList,Nat.reduceAdd,Nat.reduceLeDiff,tysn,tys2,t0,t1,t2,t7,t8,t9,hln,hlen,c1,e1,e1',hxn,load3_rptr,YW,isCell_int,isCell_str,hobj,set_end,heap_end,ld1,ld2,ld3,g1,g2,g3,g7,g17,hp1,hp2,hst,build_i,mb38]
      exact fin sv L' _ jv (fun h => by omega) (by rw [hstv]; exact hS') (by rw [hstv, List.length_append, List.length_take]; simp; omega)
    have g17 : (((gN l i).op : Int) = 17) = False := eq_false h17
    by_cases h8 : (gN l i).op = 8
    · have g8 : (((gN l i).op : Int) = 8) = True := eq_true h8
      rw [h8] at a1 a2 hstv
      change 3 ≤ vs.length at a1
      have e1' := e3 1 (by omega)
      have e2' := e3 2 (by omega)
      have e3' := e3 3 (by omega)
      change IntKind.i64.wrap ((vs.length : Int) - 1) = _ at e1'
      change IntKind.i64.wrap ((vs.length : Int) - 2) = _ at e2'
      change IntKind.i64.wrap ((vs.length : Int) - 3) = _ at e3'
      change Tys [1, 0, 0] (vs.drop (vs.length - 3)) at a2
      change stepV l i cs xs vs = vs.take (vs.length - 3) ++ [opV 8 (vs.drop (vs.length - 3))] at hstv
      obtain ⟨x, y, z, hx1, bx, _⟩ := Tys.three a2
      have hg0 : vs.getD (vs.length - 3) 0 = x := by rw [show vs.length - 3 = vs.length - 3 + 0 by omega, ← getD_drop', hx1]; rfl
      have hg1 : vs.getD (vs.length - 2) 0 = y := by rw [show vs.length - 2 = vs.length - 3 + 1 by omega, ← getD_drop', hx1]; rfl
      have hg2 : vs.getD (vs.length - 1) 0 = z := by rw [show vs.length - 1 = vs.length - 3 + 2 by omega, ← getD_drop', hx1]; rfl
      obtain ⟨pz, z1, z2⟩ := rd_idx hS1.rd (show vs.length - 1 < vs.length by omega)
      obtain ⟨py, y1, y2⟩ := rd_idx hS1.rd (show vs.length - 2 < vs.length by omega)
      obtain ⟨px, x1, x2⟩ := rd_idx hS1.rd (show vs.length - 3 < vs.length by omega)
      rw [hg0] at x2; rw [hg1] at y2; rw [hg2] at z2
      rw [hx1] at hstv
      change stepV l i cs xs vs = vs.take (vs.length - 3) ++ [if x = 1 then y else z] at hstv
      obtain ⟨v1, hcut, hS2, hb2⟩ := StkV.cut (E := env) hS1 u24i sz3 (vs.length - 3) (by omega) none (.inl rfl)
      have hS2 : SI (L ++ [objN (gN l i)]) v1 (vs.take (vs.length - 3)) := by
        unfold SI
        rw [List.length_take, Nat.min_eq_left (by omega), List.map_take]; simpa using hS2
      obtain ⟨v', L', hA, hS', _⟩ := hS2.push ts (if x = 1 then y else z) (by rw [List.length_take]; omega)
      by_cases hx0 : x = 1
      · rw [if_pos hx0] at hstv hS' hA
        have gx : ((x : Int) = 1) = True := eq_true hx0
        simp -implicitDefEqProofs only [Wa,Wb,Wc,Wd,We,Wf,Wg,Wh,Wi,Wj,Wk,Wl,Wm,Wn,Zo,Zp,evalT,Nat.reduceLT,Nat.reduceEqDiff,if_true,if_false,reduceIte,Ys,ofVal,ofCell,argT,resT,setT,Y0,Int.reduceEq,Int.reduceLT,Int.reduceLE,Int.reduceNeg,mb,Nat.reduceBEq,tys,stb,Va,storeList,Nat.reduceAdd,Nat.reduceLeDiff,tysn,tys2,t0,t1,t2,t7,t8,t9,hln,hlen,c1,e1,e1',e2',e3',hxn,load3_rptr,YW,isCell_int,isCell_str,hobj,set_end,heap_end,ld1,ld2,ld3,g1,g2,g3,g7,g17,g8,x1,x2,y1,y2,z1,z2,gx,opT_slice,optO_none,optO_some,hcut,hA,build_i,mb38]
        exact fin v' L' _ jv (fun h => by omega) (by rw [hstv]; exact hS') (by rw [hstv, List.length_append, List.length_take]; simp; omega)
      · rw [if_neg hx0] at hstv hS' hA
        have gx : ((x : Int) = 1) = False := eq_false hx0
        simp -implicitDefEqProofs only [Wa,Wb,Wc,Wd,We,Wf,Wg,Wh,Wi,Wj,Wk,Wl,Wm,Wn,Zo,Zp,evalT,Nat.reduceLT,Nat.reduceEqDiff,if_true,if_false,reduceIte,Ys,ofVal,ofCell,argT,resT,setT,Y0,Int.reduceEq,Int.reduceLT,Int.reduceLE,Int.reduceNeg,mb,Nat.reduceBEq,tys,stb,Va,storeList,Nat.reduceAdd,Nat.reduceLeDiff,tysn,tys2,t0,t1,t2,t7,t8,t9,hln,hlen,c1,e1,e1',e2',e3',hxn,load3_rptr,YW,isCell_int,isCell_str,hobj,set_end,heap_end,ld1,ld2,ld3,g1,g2,g3,g7,g17,g8,x1,x2,y1,y2,z1,z2,gx,opT_slice,optO_none,optO_some,hcut,hA,build_i,mb38]
        exact fin v' L' _ jv (fun h => by omega) (by rw [hstv]; exact hS') (by rw [hstv, List.length_append, List.length_take]; simp; omega)
    have g8 : (((gN l i).op : Int) = 8) = False := eq_false h8
    have har : arI (gN l i).op = 2 := by unfold arI; rw [if_neg (by omega), if_neg h8]
    rw [har] at a1 a2 hstv
    change 2 ≤ vs.length at a1
    change Tys (takesN (gN l i).op).1 (vs.drop (vs.length - 2)) at a2
    change stepV l i cs xs vs = vs.take (vs.length - 2) ++ [opV (gN l i).op (vs.drop (vs.length - 2))] at hstv
    have e1' := e3 1 (by omega)
    have e2' := e3 2 (by omega)
    change IntKind.i64.wrap ((vs.length : Int) - 1) = _ at e1'
    change IntKind.i64.wrap ((vs.length : Int) - 2) = _ at e2'
    obtain ⟨x, y, hx1, bx, by'⟩ : ∃ x y, vs.drop (vs.length - 2) = [x, y] ∧ In64 x ∧ In64 y := by
      obtain ⟨a1', _, _⟩ := takes_ar o4 o2
      rw [har] at a1'
      match htk : (takesN (gN l i).op).1, a1' with
      | [k1, k2], _ =>
        rw [htk] at a2
        obtain ⟨x, y, h, p, p2⟩ := Tys.two a2
        exact ⟨x, y, h, p.1, p2.1⟩
    have hg1 : vs.getD (vs.length - 2) 0 = x := by rw [show vs.length - 2 = vs.length - 2 + 0 by omega, ← getD_drop', hx1]; rfl
    have hg2 : vs.getD (vs.length - 1) 0 = y := by rw [show vs.length - 1 = vs.length - 2 + 1 by omega, ← getD_drop', hx1]; rfl
    obtain ⟨py, y1, y2⟩ := rd_idx hS1.rd (show vs.length - 1 < vs.length by omega)
    obtain ⟨px, x1, x2⟩ := rd_idx hS1.rd (show vs.length - 2 < vs.length by omega)
    rw [hg1] at x2; rw [hg2] at y2
    rw [hx1] at hstv
    have hT2' := two_call (gN l i).op ⟨o4, o2, h7, h8, h17⟩ x y by'
    obtain ⟨v1, hcut, hS2, hb2⟩ := StkV.cut (E := env) hS1 u24i sz3 (vs.length - 2) (by omega) none (.inl rfl)
    have hS2 : SI (L ++ [objN (gN l i)]) v1 (vs.take (vs.length - 2)) := by
      unfold SI
      rw [List.length_take, Nat.min_eq_left (by omega), List.map_take]; simpa using hS2
    obtain ⟨v', L', hA, hS', _⟩ := hS2.push ts (opV (gN l i).op [x, y]) (by rw [List.length_take]; omega)
    simp -implicitDefEqProofs only [Wa,Wb,Wc,Wd,We,Wf,Wg,Wh,Wi,Wj,Wk,Wl,Wm,Wn,Zo,Zp,evalT,Nat.reduceLT,Nat.reduceEqDiff,if_true,if_false,reduceIte,Ys,ofVal,ofCell,argT,resT,setT,Y0,Int.reduceEq,Int.reduceLT,Int.reduceLE,Int.reduceNeg,mb,Nat.reduceBEq,tys,stb,Va,storeList,Nat.reduceAdd,Nat.reduceLeDiff,tysn,tys2,t0,t1,t2,t7,t8,t9,hln,hlen,c1,e1,e1',e2',hxn,load3_rptr,YW,isCell_int,isCell_str,hobj,set_end,heap_end,ld1,ld2,ld3,g1,g2,g3,g7,g17,g8,x1,x2,y1,y2,opT_slice,optO_none,optO_some,hT2',hcut,hA,build_i,mb38]
    exact ⟨by kernel_rfl, fin v' L' _ jv (fun h => by omega) (by rw [hstv]; exact hS') (by rw [hstv, List.length_append, List.length_take]; simp; omega)⟩
  · have hil : i = l.length := by omega
    subst hil
    have c1 : ¬ (l.length : Int) < (l.length : Int) := by omega
    rw [Nat.sub_self] at hR hW
    simp only [exprL] at hR
    simp only [runL] at hW
    subst hR hW
    have hlen : vs.length = 1 := by rw [← hT.len]; simp only at r2; rw [r2]; rfl
    obtain ⟨p, hp, hpl⟩ := rd_idx hS.rd (show 0 < vs.length by omega)
    have hp : vIndexAddr 1 sv (.int .i64 0) = some p := hp
    simp -implicitDefEqProofs only [Wa,Wb,Wc,Wd,We,Wf,Wg,Wh,Wi,Wj,Wk,Wl,Wm,Wn,Zo,Zp,evalT,Nat.reduceLT,Nat.reduceEqDiff,if_true,if_false,reduceIte,Ys,ofVal,ofCell,argT,resT,setT,Y0,Int.reduceEq,Int.reduceLT,Int.reduceLE,Int.reduceNeg,mb,Nat.reduceBEq,tys,stb,Va,storeList,Nat.reduceAdd,Nat.reduceLeDiff,tysn,t0,t1,t2,t7,t8,t9,hln,c1,Int.natCast_zero,hp,hpl]
    rfl
end Go.Proofs.YtcjapamldllleaaDoor
namespace Go.Proofs.YtcjapamldllleaaDoor
open Go.Ab
set_option maxHeartbeats 4000000
set_option maxRecDepth 100000
set_option linter.unusedSimpArgs false
set_option linter.unusedVariables false
theorem at10 : env.P.funcs[10]? = some Tryd.f10 := by kernel_rfl
theorem at11 : env.P.funcs[11]? = some Tryd.f11 := by kernel_rfl
theorem at12 : env.P.funcs[12]? = some Tryd.f12 := by kernel_rfl
theorem at13 : env.P.funcs[13]? = some Tryd.f13 := by kernel_rfl
structure Fine (v : V) (l : List Nd) (cv : V) (cs : List Col) : Prop where
  hv : IsN v l
  hl : l.length ≤ 1000
  hc : IsC cv cs
  ok : OkC cs
  hcl : cs.length ≤ 1000
  hs : ∀ i, i < cs.length → Short (cs.getD i Col.none)
theorem Fine.hw {v : V} {l : List Nd} {cv : V} {cs : List Col} (h : Fine v l cv cs) (nm : List UInt8) : (colN cs nm).ws.length ≤ 1000 := by
  unfold colN
  rcases seekK_spec cs nm with e | ⟨j, e, hj, _⟩
  · rw [e, if_neg (by omega)]; simp [Col.none]
  · rw [e, if_pos (by omega), Int.toNat_natCast]; exact (h.hs j hj).2.1
structure FineI (xv : V) (xs : List Int) : Prop where
  hx : IsI xv xs
  hxl : xs.length ≤ 1000
  hin : ∀ x ∈ xs, In64 x
def Ready (l : List Nd) (cs : List Col) (xs : List Int) (cond : Bool) : Prop := Acc l cs cond ∧ Fits cs xs
open Classical in
noncomputable def valueV (l : List Nd) (cs : List Col) (xs : List Int) : Int := if Ready l cs xs false then runV l cs xs else 0
open Classical in
noncomputable def holdsV (l : List Nd) (cs : List Col) (xs : List Int) : Bool := if Ready l cs xs true then decide (runV l cs xs = 1) else false
theorem opT_mkI {E : Env} {m : Bool} {T : Tm} {σ : S} (t : TypeId) (x : Operand) {d : TypeDesc} (hu : E.P.underlying t = some d) (hd : ∀ a, d ≠ .interface a) : opT E m T σ (.makeInterface t x) = (evalT E T x).map fun v => (.iface t v, σ) := by
  unfold opT
  simp only [apure]
  cases evalT E T x with
  | none => rfl
  | some v =>
    simp only [Option.map_some, Option.bind_some]
    rw [hu]
    cases d <;> first | rfl | exact absurd rfl (hd _)
theorem mkI62 {m : Bool} {T : Tm} {σ : S} (x : Operand) : opT env m T σ (.makeInterface 62 x) = (evalT env T x).map fun v => (.iface 62 v, σ) := opT_mkI 62 x u62 (by intros; simp)
section
variable {v : V} {l : List Nd} {cv : V} {cs : List Col} {xv : V} {xs : List Int}
open Classical in
theorem value_call (F : Fine v l cv cs) (G : FineI xv xs) (σ : S) : callFn env (ev env) 10 [v, cv, xv] σ = some (.int .i64 (valueV l cs xs), σ) := by
  refine callFn_pure rfl rfl (by simp [V.closed, V.closed.closedL, closed_C F.hc F.ok, closed_N F.hv, closed_I G.hx]) at10 rfl (by simp [Tryd.f10]) (by simp [Tryd.f10]) (G_start ?_) σ
  have hA := accepted_call v l F.hv (Nat.le_trans F.hl (by omega)) cv cs F.hc F.ok F.hcl F.hs false
  have hF := fits_call cv cs F.hc F.ok F.hcl xv xs G.hx (Nat.le_trans G.hxl (by omega))
  unfold valueV Ready
  by_cases h1 : Acc l cs false
  · rw [decide_eq_true h1] at hA
    by_cases h2 : Fits cs xs
    · rw [if_pos ⟨h1, h2⟩]
      rw [decide_eq_true h2] at hF
      have hR := run_call v l F.hv F.hl cv cs F.hc F.ok F.hcl F.hw xv xs G.hx h2.1 G.hin false h1.1
      simp -implicitDefEqProofs only [Tryd.f10,Wa,Wb,Wc,Wd,We,Wf,Wg,Wh,Wi,Wj,Wk,Wl,Wm,Wn,Zo,Zp,evalT,Nat.reduceLT,Nat.reduceEqDiff,if_true,if_false,reduceIte,Ys,ofVal,ofCell,argT,resT,setT,Y0,Int.reduceEq,Int.reduceLT,Int.reduceLE,Int.reduceNeg,mb,Nat.reduceBEq,tys,stb,tysn,empty_mk,hA,hF,hR,mkI62]
      trace_state
      rfl
    · rw [if_neg (fun h => h2 h.2)]
      rw [decide_eq_false h2] at hF
      simp -implicitDefEqProofs only [Tryd.f10,Wa,Wb,Wc,Wd,We,Wf,Wg,Wh,Wi,Wj,Wk,Wl,Wm,Wn,Zo,Zp,evalT,Nat.reduceLT,Nat.reduceEqDiff,if_true,if_false,reduceIte,Ys,ofVal,ofCell,argT,resT,setT,Y0,Int.reduceEq,Int.reduceLT,Int.reduceLE,Int.reduceNeg,mb,Nat.reduceBEq,tys,stb,tysn,empty_mk,hA,hF]
      rfl
  · rw [if_neg (fun h => h1 h.1)]
    rw [decide_eq_false h1] at hA
    simp -implicitDefEqProofs only [Tryd.f10,Wa,Wb,Wc,Wd,We,Wf,Wg,Wh,Wi,Wj,Wk,Wl,Wm,Wn,Zo,Zp,evalT,Nat.reduceLT,Nat.reduceEqDiff,if_true,if_false,reduceIte,Ys,ofVal,ofCell,argT,resT,setT,Y0,Int.reduceEq,Int.reduceLT,Int.reduceLE,Int.reduceNeg,mb,Nat.reduceBEq,tys,stb,tysn,empty_mk,hA]
    rfl
open Classical in
theorem valuer_call (F : Fine v l cv cs) (G : FineI xv xs) (σ : S) : callFn env (ev env) 11 [v, cv, xv] σ = some (.int .i64 (valueV l cs xs), σ) := by
  refine callFn_pure rfl rfl (by simp [V.closed, V.closed.closedL, closed_C F.hc F.ok, closed_N F.hv, closed_I G.hx]) at11 rfl (by simp [Tryd.f11]) (by simp [Tryd.f11]) (G_start ?_) σ
  have hA := exprr_call v l F.hv (Nat.le_trans F.hl (by omega)) cv cs F.hc F.ok F.hcl (fun i hi => (F.hs i hi).2.1) false
  have hP := proper_call cv cs F.hc F.ok F.hcl F.hs
  have hF := fitsr_call cv cs F.hc F.ok F.hcl xv xs G.hx (Nat.le_trans G.hxl (by omega))
  unfold valueV Ready Acc
  by_cases h0 : exprE l cs false = 0
  · have g0 : ((exprE l cs false : Int) = 0) = True := eq_true h0
    by_cases h1 : Proper cs
    · rw [decide_eq_true h1] at hP
      by_cases h2 : Fits cs xs
      · rw [if_pos ⟨⟨h0, h1⟩, h2⟩]
        rw [decide_eq_true h2] at hF
        have hR := eval_call v l F.hv F.hl cv cs F.hc F.ok F.hcl F.hw xv xs G.hx h2.1 G.hin false h0
        simp -implicitDefEqProofs only [Tryd.f11,Wa,Wb,Wc,Wd,We,Wf,Wg,Wh,Wi,Wj,Wk,Wl,Wm,Wn,Zo,Zp,evalT,Nat.reduceLT,Nat.reduceEqDiff,if_true,if_false,reduceIte,Ys,ofVal,ofCell,argT,resT,setT,Y0,Int.reduceEq,Int.reduceLT,Int.reduceLE,Int.reduceNeg,mb,Nat.reduceBEq,tys,stb,tysn,empty_mk,hA,g0,hP,hF,hR]
        rfl
      · rw [if_neg (fun h => h2 h.2)]
        rw [decide_eq_false h2] at hF
        simp -implicitDefEqProofs only [Tryd.f11,Wa,Wb,Wc,Wd,We,Wf,Wg,Wh,Wi,Wj,Wk,Wl,Wm,Wn,Zo,Zp,evalT,Nat.reduceLT,Nat.reduceEqDiff,if_true,if_false,reduceIte,Ys,ofVal,ofCell,argT,resT,setT,Y0,Int.reduceEq,Int.reduceLT,Int.reduceLE,Int.reduceNeg,mb,Nat.reduceBEq,tys,stb,tysn,empty_mk,hA,g0,hP,hF]
        rfl
    · rw [if_neg (fun h => h1 h.1.2)]
      rw [decide_eq_false h1] at hP
      simp -implicitDefEqProofs only [Tryd.f11,Wa,Wb,Wc,Wd,We,Wf,Wg,Wh,Wi,Wj,Wk,Wl,Wm,Wn,Zo,Zp,evalT,Nat.reduceLT,Nat.reduceEqDiff,if_true,if_false,reduceIte,Ys,ofVal,ofCell,argT,resT,setT,Y0,Int.reduceEq,Int.reduceLT,Int.reduceLE,Int.reduceNeg,mb,Nat.reduceBEq,tys,stb,tysn,empty_mk,hA,g0,hP]
      rfl
  · have g0 : ((exprE l cs false : Int) = 0) = False := eq_false h0
    rw [if_neg (fun h => h0 h.1.1)]
    simp -implicitDefEqProofs only [Tryd.f11,Wa,Wb,Wc,Wd,We,Wf,Wg,Wh,Wi,Wj,Wk,Wl,Wm,Wn,Zo,Zp,evalT,Nat.reduceLT,Nat.reduceEqDiff,if_true,if_false,reduceIte,Ys,ofVal,ofCell,argT,resT,setT,Y0,Int.reduceEq,Int.reduceLT,Int.reduceLE,Int.reduceNeg,mb,Nat.reduceBEq,tys,stb,tysn,empty_mk,hA,g0]
    rfl
open Classical in
theorem holds_call (F : Fine v l cv cs) (G : FineI xv xs) (σ : S) : callFn env (ev env) 12 [v, cv, xv] σ = some (.bool (holdsV l cs xs), σ) := by
  refine callFn_pure rfl rfl (by simp [V.closed, V.closed.closedL, closed_C F.hc F.ok, closed_N F.hv, closed_I G.hx]) at12 rfl (by simp [Tryd.f12]) (by simp [Tryd.f12]) (G_start ?_) σ
  have hA := accepted_call v l F.hv (Nat.le_trans F.hl (by omega)) cv cs F.hc F.ok F.hcl F.hs true
  have hF := fits_call cv cs F.hc F.ok F.hcl xv xs G.hx (Nat.le_trans G.hxl (by omega))
  unfold holdsV Ready
  by_cases h1 : Acc l cs true
  · rw [decide_eq_true h1] at hA
    by_cases h2 : Fits cs xs
    · rw [if_pos ⟨h1, h2⟩]
      rw [decide_eq_true h2] at hF
      have hR := run_call v l F.hv F.hl cv cs F.hc F.ok F.hcl F.hw xv xs G.hx h2.1 G.hin true h1.1
      by_cases h3 : runV l cs xs = 1
      · have g3 : ((runV l cs xs : Int) = 1) = True := eq_true h3
        simp -implicitDefEqProofs only [Tryd.f12,Wa,Wb,Wc,Wd,We,Wf,Wg,Wh,Wi,Wj,Wk,Wl,Wm,Wn,Zo,Zp,evalT,Nat.reduceLT,Nat.reduceEqDiff,if_true,if_false,reduceIte,Ys,ofVal,ofCell,argT,resT,setT,Y0,Int.reduceEq,Int.reduceLT,Int.reduceLE,Int.reduceNeg,mb,Nat.reduceBEq,tys,stb,tysn,empty_mk,hA,hF,hR,mkI62,g3]
        rfl
      · have g3 : ((runV l cs xs : Int) = 1) = False := eq_false h3
        simp -implicitDefEqProofs only [Tryd.f12,Wa,Wb,Wc,Wd,We,Wf,Wg,Wh,Wi,Wj,Wk,Wl,Wm,Wn,Zo,Zp,evalT,Nat.reduceLT,Nat.reduceEqDiff,if_true,if_false,reduceIte,Ys,ofVal,ofCell,argT,resT,setT,Y0,Int.reduceEq,Int.reduceLT,Int.reduceLE,Int.reduceNeg,mb,Nat.reduceBEq,tys,stb,tysn,empty_mk,hA,hF,hR,mkI62,g3]
        rfl
    · rw [if_neg (fun h => h2 h.2)]
      rw [decide_eq_false h2] at hF
      simp -implicitDefEqProofs only [Tryd.f12,Wa,Wb,Wc,Wd,We,Wf,Wg,Wh,Wi,Wj,Wk,Wl,Wm,Wn,Zo,Zp,evalT,Nat.reduceLT,Nat.reduceEqDiff,if_true,if_false,reduceIte,Ys,ofVal,ofCell,argT,resT,setT,Y0,Int.reduceEq,Int.reduceLT,Int.reduceLE,Int.reduceNeg,mb,Nat.reduceBEq,tys,stb,tysn,empty_mk,hA,hF]
      rfl
  · rw [if_neg (fun h => h1 h.1)]
    rw [decide_eq_false h1] at hA
    simp -implicitDefEqProofs only [Tryd.f12,Wa,Wb,Wc,Wd,We,Wf,Wg,Wh,Wi,Wj,Wk,Wl,Wm,Wn,Zo,Zp,evalT,Nat.reduceLT,Nat.reduceEqDiff,if_true,if_false,reduceIte,Ys,ofVal,ofCell,argT,resT,setT,Y0,Int.reduceEq,Int.reduceLT,Int.reduceLE,Int.reduceNeg,mb,Nat.reduceBEq,tys,stb,tysn,empty_mk,hA]
    rfl
open Classical in
theorem holdsr_call (F : Fine v l cv cs) (G : FineI xv xs) (σ : S) : callFn env (ev env) 13 [v, cv, xv] σ = some (.bool (holdsV l cs xs), σ) := by
  refine callFn_pure rfl rfl (by simp [V.closed, V.closed.closedL, closed_C F.hc F.ok, closed_N F.hv, closed_I G.hx]) at13 rfl (by simp [Tryd.f13]) (by simp [Tryd.f13]) (G_start ?_) σ
  have hA := exprr_call v l F.hv (Nat.le_trans F.hl (by omega)) cv cs F.hc F.ok F.hcl (fun i hi => (F.hs i hi).2.1) true
  have hP := proper_call cv cs F.hc F.ok F.hcl F.hs
  have hF := fitsr_call cv cs F.hc F.ok F.hcl xv xs G.hx (Nat.le_trans G.hxl (by omega))
  unfold holdsV Ready Acc
  by_cases h0 : exprE l cs true = 0
  · have g0 : ((exprE l cs true : Int) = 0) = True := eq_true h0
    by_cases h1 : Proper cs
    · rw [decide_eq_true h1] at hP
      by_cases h2 : Fits cs xs
      · rw [if_pos ⟨⟨h0, h1⟩, h2⟩]
        rw [decide_eq_true h2] at hF
        have hR := eval_call v l F.hv F.hl cv cs F.hc F.ok F.hcl F.hw xv xs G.hx h2.1 G.hin true h0
        by_cases h3 : runV l cs xs = 1
        · have g3 : ((runV l cs xs : Int) = 1) = True := eq_true h3
          simp -implicitDefEqProofs only [Tryd.f13,Wa,Wb,Wc,Wd,We,Wf,Wg,Wh,Wi,Wj,Wk,Wl,Wm,Wn,Zo,Zp,evalT,Nat.reduceLT,Nat.reduceEqDiff,if_true,if_false,reduceIte,Ys,ofVal,ofCell,argT,resT,setT,Y0,Int.reduceEq,Int.reduceLT,Int.reduceLE,Int.reduceNeg,mb,Nat.reduceBEq,tys,stb,tysn,empty_mk,hA,g0,hP,hF,hR,g3]
          rfl
        · have g3 : ((runV l cs xs : Int) = 1) = False := eq_false h3
          simp -implicitDefEqProofs only [Tryd.f13,Wa,Wb,Wc,Wd,We,Wf,Wg,Wh,Wi,Wj,Wk,Wl,Wm,Wn,Zo,Zp,evalT,Nat.reduceLT,Nat.reduceEqDiff,if_true,if_false,reduceIte,Ys,ofVal,ofCell,argT,resT,setT,Y0,Int.reduceEq,Int.reduceLT,Int.reduceLE,Int.reduceNeg,mb,Nat.reduceBEq,tys,stb,tysn,empty_mk,hA,g0,hP,hF,hR,g3]
          rfl
      · rw [if_neg (fun h => h2 h.2)]
        rw [decide_eq_false h2] at hF
        simp -implicitDefEqProofs only [Tryd.f13,Wa,Wb,Wc,Wd,We,Wf,Wg,Wh,Wi,Wj,Wk,Wl,Wm,Wn,Zo,Zp,evalT,Nat.reduceLT,Nat.reduceEqDiff,if_true,if_false,reduceIte,Ys,ofVal,ofCell,argT,resT,setT,Y0,Int.reduceEq,Int.reduceLT,Int.reduceLE,Int.reduceNeg,mb,Nat.reduceBEq,tys,stb,tysn,empty_mk,hA,g0,hP,hF]
        rfl
    · rw [if_neg (fun h => h1 h.1.2)]
      rw [decide_eq_false h1] at hP
      simp -implicitDefEqProofs only [Tryd.f13,Wa,Wb,Wc,Wd,We,Wf,Wg,Wh,Wi,Wj,Wk,Wl,Wm,Wn,Zo,Zp,evalT,Nat.reduceLT,Nat.reduceEqDiff,if_true,if_false,reduceIte,Ys,ofVal,ofCell,argT,resT,setT,Y0,Int.reduceEq,Int.reduceLT,Int.reduceLE,Int.reduceNeg,mb,Nat.reduceBEq,tys,stb,tysn,empty_mk,hA,g0,hP]
      rfl
  · have g0 : ((exprE l cs true : Int) = 0) = False := eq_false h0
    rw [if_neg (fun h => h0 h.1.1)]
    simp -implicitDefEqProofs only [Tryd.f13,Wa,Wb,Wc,Wd,We,Wf,Wg,Wh,Wi,Wj,Wk,Wl,Wm,Wn,Zo,Zp,evalT,Nat.reduceLT,Nat.reduceEqDiff,if_true,if_false,reduceIte,Ys,ofVal,ofCell,argT,resT,setT,Y0,Int.reduceEq,Int.reduceLT,Int.reduceLE,Int.reduceNeg,mb,Nat.reduceBEq,tys,stb,tysn,empty_mk,hA,g0]
    rfl
end
end Go.Proofs.YtcjapamldllleaaDoor
namespace Go.Proofs.YtcjapamldllleaaDoor
open Go.Ab
set_option maxHeartbeats 4000000
set_option maxRecDepth 100000
set_option linter.unusedSimpArgs false
set_option linter.unusedVariables false
theorem fts52 : fieldTs env.P 52 = some [3, 3, 9] := by kernel_rfl
theorem tyd_N {x : List V} {k : Nat} (h : Tyd env.P (k + 2) 52 x) : ∃ c : {c : Nd // c.col.length < 2 ^ 63}, x = c.1.cells := by
  have h := tyd_struct h fts52
  obtain ⟨a, r, rfl, ha, b, r2, rfl, hb, c, r3, rfl, hc, rfl⟩ := h
  obtain ⟨s, rfl, hs⟩ := tyd_str hc u9
  obtain ⟨n, rfl, _⟩ := tyd_int ha u3
  obtain ⟨m, rfl, _⟩ := tyd_int hb u3
  have hm := maxLen_lt
  exact ⟨⟨⟨n, m, s⟩, by simp only; omega⟩, rfl⟩
theorem flatNg (cs : List {c : Nd // c.col.length < 2 ^ 63}) : (cs.map fun c => c.1.cells).flatten = flatN (cs.map (·.1)) := by simp only [flatN, List.map_map]; rfl
theorem tyd_NS {v : V} {k : Nat} (h : Tyd env.P (k + 3) 22 [v]) : ∃ cs, IsN v cs ∧ cs.length < 2 ^ 63 := by
  rcases tyd_slice h u22 with h | ⟨vss, h, hl, _, ht⟩
  · simp only [List.cons.injEq, and_true] at h
    exact ⟨[], .inl ⟨h, rfl⟩, by simp⟩
  · simp only [List.cons.injEq, and_true] at h
    obtain ⟨cs, rfl⟩ := tyd_map (f := fun c : {c : Nd // c.col.length < 2 ^ 63} => c.1.cells) (fun x hx => tyd_N hx) ht
    have hm := maxLen_lt
    refine ⟨cs.map (·.1), .inr (.inl ?_), by simp only [List.length_map] at hl ⊢; omega⟩
    rw [h, flatNg]; simp
theorem flatI1 : ∀ xs : List Int, (xs.map fun x => [V.int .i64 x]).flatten = xs.map (V.int .i64)
  | [] => rfl
  | x :: xs => by simp only [List.map_cons, List.flatten_cons, flatI1 xs]; rfl
theorem tyd_IS {v : V} {k : Nat} (h : Tyd env.P (k + 2) 24 [v]) : ∃ xs, IsI v xs ∧ xs.length < 2 ^ 63 ∧ ∀ x ∈ xs, In64 x := by
  rcases tyd_slice h u24i with h | ⟨vss, h, hl, _, ht⟩
  · simp only [List.cons.injEq, and_true] at h
    exact ⟨[], .inl ⟨h, rfl⟩, by simp, fun x hx => by simp at hx⟩
  · simp only [List.cons.injEq, and_true] at h
    obtain ⟨xs, rfl⟩ := tyd_map (f := fun x : {x : Int // In64 x} => [V.int .i64 x.1]) (fun x hx => by
      obtain ⟨n, rfl, h1, h2⟩ := tyd_int hx u3; exact ⟨⟨n, h1, h2⟩, rfl⟩) ht
    have e : (xs.map fun x => [V.int .i64 x.1]) = ((xs.map (·.1)).map fun x => [V.int .i64 x]) := by simp
    have hm := maxLen_lt
    refine ⟨xs.map (·.1), .inr (.inl ?_), by simp only [List.length_map] at hl ⊢; omega, fun x hx => ?_⟩
    · rw [h, e, flatI1]; simp
    · obtain ⟨y, _, rfl⟩ := List.mem_map.1 hx; exact y.2
theorem okC_good {cs : List Col} (h : ∀ c ∈ cs, GoodC c) : OkC cs := fun c hc => (h c hc).1
theorem short_good {cs : List Col} (h : ∀ c ∈ cs, GoodC c) (hv : ¬ Vast cs) : ∀ i, i < cs.length → Short (cs.getD i Col.none) := fun i hi => by
  obtain ⟨_, h1, h2, h3⟩ := h _ (getD_mem (d := Col.none) hi)
  refine ⟨h1, ?_, h3⟩
  rcases Nat.lt_or_ge 100 (cs.getD i Col.none).ws.length with h4 | h4
  · exact absurd (.inl ⟨i, hi, h4⟩) hv
  · omega
theorem fine_of {v : V} {l : List Nd} {cv : V} {cs : List Col} {xs : List Int} (hv : IsN v l) (hc : IsC cv cs) (hg : ∀ c ∈ cs, GoodC c) (hL : ¬ Large l cs xs) : Fine v l cv cs :=
  ⟨hv, Classical.byContradiction fun h => hL (.inl (by omega)), hc, okC_good hg, Classical.byContradiction fun h => hL (.inr (.inl (by omega))), short_good hg fun h => hL (.inr (.inr (.inr h)))⟩
theorem at3 : env.P.funcs[3]? = some Tryd.f3 := by kernel_rfl
open Classical in
theorem values_found (awake : ∀ σ, callFn env (ev env) 9 [] σ = some (.bool true, σ)) (v : V) (l : List Nd) (hv : IsN v l) (hl : l.length < 2 ^ 63) (cv : V) (cs : List Col) (hc : IsC cv cs) (hg : ∀ c ∈ cs, GoodC c) (hcl : cs.length < 2 ^ 63) (xv : V) (xs : List Int) (hx : IsI xv xs) (hxl : xs.length < 2 ^ 63) (hin : ∀ x ∈ xs, In64 x) : Go.Ab.Found env 3 [v, cv, xv] := by
  refine found_of_wp at3 rfl (by simp [Tryd.f3]) (by simp [Tryd.f3]) (G_start ?_)
  have hLa := large_call v l hv hl cv cs hc (okC_good hg) hcl xv xs hx hxl
  by_cases hL : Large l cs xs
  · rw [decide_eq_true hL] at hLa
    simp -implicitDefEqProofs only [Tryd.f3,Wa,Wb,Wc,Wd,We,Wf,Wg,Wh,Wi,Wj,Wk,Wl,Wm,Wn,Zo,Zp,evalT,Nat.reduceLT,Nat.reduceEqDiff,if_true,if_false,reduceIte,Ys,ofVal,ofCell,argT,resT,setT,Y0,Int.reduceEq,Int.reduceLT,Int.reduceLE,Int.reduceNeg,mb,Nat.reduceBEq,tys,stb,tysn,empty_mk,hLa,awake]
    simp [oneOr]
  · rw [decide_eq_false hL] at hLa
    have F := fine_of hv hc hg hL
    have GI : FineI xv xs := ⟨hx, Classical.byContradiction fun h => hL (.inr (.inr (.inl (by omega)))), hin⟩
    have h10 := value_call F GI
    have h11 := valuer_call F GI
    have h12 := holds_call F GI
    have h13 := holdsr_call F GI
    generalize valueV l cs xs = a at *
    generalize holdsV l cs xs = b at *
    have ga : ((a : Int) = a) = True := eq_self a
    cases b with
    | true =>
      simp -implicitDefEqProofs only [Tryd.f3,Wa,Wb,Wc,Wd,We,Wf,Wg,Wh,Wi,Wj,Wk,Wl,Wm,Wn,Zo,Zp,evalT,Nat.reduceLT,Nat.reduceEqDiff,if_true,if_false,reduceIte,Ys,ofVal,ofCell,argT,resT,setT,Y0,Int.reduceEq,Int.reduceLT,Int.reduceLE,Int.reduceNeg,mb,Nat.reduceBEq,tys,stb,tysn,empty_mk,hLa,awake,h10,h11,h12,h13,ga]
      trace_state
      simp [oneOr]
    | false =>
      simp -implicitDefEqProofs only [Tryd.f3,Wa,Wb,Wc,Wd,We,Wf,Wg,Wh,Wi,Wj,Wk,Wl,Wm,Wn,Zo,Zp,evalT,Nat.reduceLT,Nat.reduceEqDiff,if_true,if_false,reduceIte,Ys,ofVal,ofCell,argT,resT,setT,Y0,Int.reduceEq,Int.reduceLT,Int.reduceLE,Int.reduceNeg,mb,Nat.reduceBEq,tys,stb,tysn,empty_mk,hLa,awake,h10,h11,h12,h13,ga]
      simp [oneOr]
theorem values_foundt (awake : ∀ σ, callFn env (ev env) 9 [] σ = some (.bool true, σ)) {u w x : V} (h : Tyd Tryd.prog 6 22 [u]) (h2 : Tyd Tryd.prog 6 23 [w]) (h3 : Tyd Tryd.prog 6 24 [x]) : Go.Ab.Found env 3 [u, w, x] := by
  obtain ⟨l, a1, a2⟩ := tyd_NS (k := 3) h
  obtain ⟨cs, b1, b2, b3⟩ := tyd_CS (k := 2) h2
  obtain ⟨xs, c1, c2, c3⟩ := tyd_IS (k := 4) h3
  exact values_found awake u l a1 a2 w cs b1 b2 b3 x xs c1 c2 c3
end Go.Proofs.YtcjapamldllleaaDoor
