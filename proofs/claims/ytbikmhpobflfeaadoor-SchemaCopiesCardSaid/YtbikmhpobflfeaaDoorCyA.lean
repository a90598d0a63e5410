/- Proved here: the law. Conditions: those of each theorem; no statement of the seat is proved in this text. -/
import Derived.Test.YtbikmhpobflfeaaDoorEnvC
import Derived.Test.YtbikmhpobflfeaaDoorSnE
namespace Go.Proofs.YtbikmhpobflfeaaDoor.C
open Go.Ab
set_option maxHeartbeats 4000000
set_option maxHeartbeats 4000000
set_option maxRecDepth 100000
set_option linter.unusedSimpArgs false
set_option linter.unusedVariables false
set_option linter.unusedSectionVars false
theorem mb (f : FuncId) (r : Nat) (h : (f == 62 && r == 3 || f == 59 && r == 3) = false) : env.mutb f r = false := h
theorem stb (f : FuncId) (r : Nat) (h : (f == 26 && r == 5 || f == 6 && r == 3) = false) : env.stab f r = false := h
theorem tys : env.P.underlying 3 = some (.int .i64) ∧ env.P.underlying 4 = some .bool ∧ env.P.underlying 5 = some (.int .u8) ∧ env.P.underlying 9 = some .string ∧ env.P.underlying 24 = some (.slice 9) ∧ env.P.underlying 115 = some (.int .u64) ∧ sz env 9 = some 1 ∧ sz env 24 = some 1 ∧ sz env 3 = some 1 ∧
    (∀ h p, aload env h 9 p = (loadCellsV h 1 p).bind (·[0]?)) ∧ (∀ h p, aload env h 24 p = (loadCellsV h 1 p).bind (·[0]?)) ∧ (∀ h p, aload env h 3 p = (loadCellsV h 1 p).bind (·[0]?)) := YtbikmhpobflfeaaDoor.tys
theorem tys2 : env.P.underlying 27 = some (.slice 44) ∧ env.P.underlying 32 = some (.int .i64) ∧ sz env 27 = some 1 ∧ sz env 44 = some 4 ∧ sz env 29 = some 4 ∧ sz env 4 = some 1 ∧ fldOff env 29 0 = some 0 ∧ fldOff env 29 1 = some 1 ∧ fldOff env 29 2 = some 2 ∧ fldOff env 29 3 = some 3 ∧
    fldOff env 44 0 = some 0 ∧ fldOff env 44 1 = some 1 ∧ fldOff env 44 2 = some 2 ∧ fldOff env 44 3 = some 3 ∧ (∀ h p, aload env h 27 p = (loadCellsV h 1 p).bind (·[0]?)) ∧ (∀ h p, aload env h 4 p = (loadCellsV h 1 p).bind (·[0]?)) := YtbikmhpobflfeaaDoor.tys2
theorem agg44 (h : List AObj) (p : V) : aload env h 44 p = (loadCellsV h 4 p).map .agg := YtbikmhpobflfeaaDoor.agg44 h p
theorem agg29 (h : List AObj) (p : V) : aload env h 29 p = (loadCellsV h 4 p).map .agg := YtbikmhpobflfeaaDoor.agg29 h p
theorem z44 : zeroV env 44 = some (.agg [.str [], .int .i64 0, .int .i64 0, .nilsl]) := YtbikmhpobflfeaaDoor.z44
theorem z29 : zeroV env 29 = some (.agg [.str [], .bool false, .int .i64 0, .nilsl]) := YtbikmhpobflfeaaDoor.z29
theorem u24 : env.P.underlying 24 = some (.slice 9) := YtbikmhpobflfeaaDoor.u24
theorem u27 : env.P.underlying 27 = some (.slice 44) := YtbikmhpobflfeaaDoor.u27
theorem at70 : env.P.funcs[70]? = some Tryd.f70 := by kernel_rfl
theorem at69 : env.P.funcs[69]? = some Tryd.f69 := by kernel_rfl
theorem at68 : env.P.funcs[68]? = some Tryd.f68 := by kernel_rfl
theorem at33 : env.P.funcs[33]? = some Tryd.f33 := by kernel_rfl
open Classical in
theorem words_call (v w : V) (xs ys : List (List UInt8)) (hv : IsW v xs) (hw : IsW w ys) (hl : xs.length ≤ 1000) (σ : S) : callFn env (ev env) 70 [v, w] σ = some (.bool (decide (xs = ys)), σ) := by
  refine callFn_pure rfl rfl (by simp [closed_W hv, closed_W hw]) at70 rfl (by simp [Tryd.f70]) (by simp [Tryd.f70]) (G_start ?_) σ
  have lv := len_W hv
  have lw := len_W hw
  by_cases h0 : xs.length = ys.length
  case neg =>
    have c0 : ¬ (xs.length : Int) = (ys.length : Int) := by omega
    have hn : ¬ xs = ys := fun h => h0 (by rw [h])
    simp -implicitDefEqProofs only [Tryd.f70,Wa,Wb,Wc,Wd,We,Wf,Wg,Wh,Wi,Wj,Wk,Wl,Wm,Wn,Zo,Zp,evalT,Nat.reduceLT,Nat.reduceEqDiff,if_true,if_false,reduceIte,Ys,ofVal,ofCell,argT,resT,setT,Y0,Int.reduceEq,Int.reduceLT,Int.reduceLE,Int.reduceNeg,mb,Nat.reduceBEq,tys,stb,empty_mk,lv,lw,c0]
    simp [oneOr, sealDepth, sealV_bool, hn]
  have c0 : (xs.length : Int) = (ys.length : Int) := by omega
  simp -implicitDefEqProofs only [Tryd.f70,Wa,Wb,Wc,Wd,We,Wf,Wg,Wh,Wi,Wj,Wk,Wl,Wm,Wn,Zo,Zp,evalT,Nat.reduceLT,Nat.reduceEqDiff,if_true,if_false,reduceIte,Ys,ofVal,ofCell,argT,resT,setT,Y0,Int.reduceEq,Int.reduceLT,Int.reduceLE,Int.reduceNeg,mb,Nat.reduceBEq,tys,stb,empty_mk,lv,lw,c0]
  refine loop_rule (fun m T D σ => D = [] ∧ T 0 = v ∧ T 1 = w ∧ T 12 = .int .i64 ys.length ∧ σ = ⟨[], []⟩ ∧ ∃ i : Nat, T 13 = .int .i64 i ∧ i ≤ xs.length ∧ m = xs.length - i ∧ ∀ j, j < i → xs.getD j [] = ys.getD j []) ?_ (xs.length - 0) _ _ _
    ⟨rfl, rfl, rfl, rfl, rfl, 0, rfl, by omega, rfl, fun j h => by omega⟩
  rintro m T D σ ⟨rfl, t0, t1, t12, rfl, i, t13, hi, rfl, hs⟩
  refine G_start ?_
  by_cases hlt : i < xs.length
  · have c1 : (i : Int) < (ys.length : Int) := by omega
    have e1 : IntKind.i64.wrap ((i : Int) + 1) = ((i + 1 : Nat) : Int) := by rw [wrap_i64 (by omega) (by omega)]; omega
    have hx := idx_W hv hlt
    have hy := idx_W hw (show i < ys.length by omega)
    by_cases hq : xs.getD i [] = ys.getD i []
    · have hb : ∀ us cc, vBinT us cc .neq (.str (xs.getD i [])) (.str (ys.getD i [])) = some (.bool false) := fun us cc => by rw [hq, vBin_sneq]; simp
      simp -implicitDefEqProofs only [Wa,Wb,Wc,Wd,We,Wf,Wg,Wh,Wi,Wj,Wk,Wl,Wm,Wn,Zo,Zp,evalT,Nat.reduceLT,Nat.reduceEqDiff,if_true,if_false,reduceIte,Ys,ofVal,ofCell,argT,resT,setT,Y0,Int.reduceEq,Int.reduceLT,Int.reduceLE,Int.reduceNeg,mb,Nat.reduceBEq,tys,stb,empty_mk,t0,t1,t12,t13,c1,e1,hx,hy,load_hd,hb]
      exact ⟨by kernel_rfl, xs.length - (i + 1), by omega, i + 1, rfl, by omega, rfl, fun j hj => by
        rcases Nat.lt_or_ge j i with h2 | h2
        · exact hs j h2
        · have : j = i := by omega
          subst this; exact hq⟩
    · have hb : ∀ us cc, vBinT us cc .neq (.str (xs.getD i [])) (.str (ys.getD i [])) = some (.bool true) := fun us cc => by rw [vBin_sneq]; exact congrArg (fun b => some (V.bool b)) (decide_eq_true hq)
      have hn : ¬ xs = ys := fun h => hq (by rw [h])
      simp -implicitDefEqProofs only [Wa,Wb,Wc,Wd,We,Wf,Wg,Wh,Wi,Wj,Wk,Wl,Wm,Wn,Zo,Zp,evalT,Nat.reduceLT,Nat.reduceEqDiff,if_true,if_false,reduceIte,Ys,ofVal,ofCell,argT,resT,setT,Y0,Int.reduceEq,Int.reduceLT,Int.reduceLE,Int.reduceNeg,mb,Nat.reduceBEq,tys,stb,empty_mk,t0,t1,t12,t13,c1,e1,hx,hy,load_hd,hb]
      exact ⟨by kernel_rfl, by simp [oneOr, sealDepth, sealV_bool, hn]⟩
  · have c1 : ¬ (i : Int) < (ys.length : Int) := by omega
    have he : xs = ys := ext_ws h0 fun j hj => hs j (by omega)
    simp -implicitDefEqProofs only [Wa,Wb,Wc,Wd,We,Wf,Wg,Wh,Wi,Wj,Wk,Wl,Wm,Wn,Zo,Zp,evalT,Nat.reduceLT,Nat.reduceEqDiff,if_true,if_false,reduceIte,Ys,ofVal,ofCell,argT,resT,setT,Y0,Int.reduceEq,Int.reduceLT,Int.reduceLE,Int.reduceNeg,mb,Nat.reduceBEq,tys,stb,empty_mk,t0,t1,t12,t13,c1]
    simp [oneOr, sealDepth, sealV_bool, he]
open Classical in
theorem samecol_call (c d : Col) (hc : IsW c.w c.ws) (hd : IsW d.w d.ws) (hl : c.ws.length ≤ 1000) (σ : S) : callFn env (ev env) 69 [.agg [.str c.name, .int .i64 c.lo, .int .i64 c.hi, c.w], .agg [.str d.name, .int .i64 d.lo, .int .i64 d.hi, d.w]] σ = some (.bool (decide (SameC c d)), σ) := by
  refine callFn_pure rfl rfl (by simp [V.closed, V.closed.closedL, closed_W hc, closed_W hd]) at69 rfl (by simp [Tryd.f69]) (by simp [Tryd.f69]) (G_start ?_) σ
  have hW := words_call c.w d.w c.ws d.ws hc hd hl
  have hic := isCell_W hc
  have hid := isCell_W hd
  unfold SameC
  obtain ⟨nm, lo, hi, w, ws⟩ := c
  obtain ⟨nm2, lo2, hi2, w2, ws2⟩ := d
  simp only at hW hic hid hl ⊢
  by_cases h1 : nm = nm2
  case neg =>
    simp -implicitDefEqProofs only [Tryd.f69,Wa,Wb,Wc,Wd,We,Wf,Wg,Wh,Wi,Wj,Wk,Wl,Wm,Wn,Zo,Zp,evalT,Nat.reduceLT,Nat.reduceEqDiff,if_true,if_false,reduceIte,Ys,ofVal,ofCell,argT,resT,setT,Y0,Int.reduceEq,Int.reduceLT,Int.reduceLE,Int.reduceNeg,mb,Nat.reduceBEq,tys,stb,tys2,empty_mk,YW,vBin_seql,h1]
    simp [oneOr, sealDepth, sealV_bool, h1]
  by_cases h2 : lo = lo2
  case neg =>
    simp -implicitDefEqProofs only [Tryd.f69,Wa,Wb,Wc,Wd,We,Wf,Wg,Wh,Wi,Wj,Wk,Wl,Wm,Wn,Zo,Zp,evalT,Nat.reduceLT,Nat.reduceEqDiff,if_true,if_false,reduceIte,Ys,ofVal,ofCell,argT,resT,setT,Y0,Int.reduceEq,Int.reduceLT,Int.reduceLE,Int.reduceNeg,mb,Nat.reduceBEq,tys,stb,tys2,empty_mk,YW,vBin_seql,h1,h2]
    simp [oneOr, sealDepth, sealV_bool, h2]
  by_cases h3 : hi = hi2
  case neg =>
    simp -implicitDefEqProofs only [Tryd.f69,Wa,Wb,Wc,Wd,We,Wf,Wg,Wh,Wi,Wj,Wk,Wl,Wm,Wn,Zo,Zp,evalT,Nat.reduceLT,Nat.reduceEqDiff,if_true,if_false,reduceIte,Ys,ofVal,ofCell,argT,resT,setT,Y0,Int.reduceEq,Int.reduceLT,Int.reduceLE,Int.reduceNeg,mb,Nat.reduceBEq,tys,stb,tys2,empty_mk,YW,vBin_seql,h1,h2,h3]
    simp [oneOr, sealDepth, sealV_bool, h3]
  subst h1 h2 h3
  simp -implicitDefEqProofs only [Tryd.f69,Wa,Wb,Wc,Wd,We,Wf,Wg,Wh,Wi,Wj,Wk,Wl,Wm,Wn,Zo,Zp,evalT,Nat.reduceLT,Nat.reduceEqDiff,if_true,if_false,reduceIte,Ys,ofVal,ofCell,argT,resT,setT,Y0,Int.reduceEq,Int.reduceLT,Int.reduceLE,Int.reduceNeg,mb,Nat.reduceBEq,tys,stb,tys2,empty_mk,YW,vBin_seql,hW]
  simp [oneOr, sealDepth, sealV_bool]
open Classical in
theorem samecols_call (cv dv : V) (cs ds : List Col) (hc : IsC cv cs) (hd : IsC dv ds) (ok : OkC cs) (ok2 : OkC ds) (hl : cs.length ≤ 1000) (hw : ∀ i, i < cs.length → (cs.getD i Col.none).ws.length ≤ 1000) (σ : S) : callFn env (ev env) 68 [cv, dv, .func 69 [] []] σ = some (.bool (decide (SameL cs ds)), σ) := by
  refine callFn_pure rfl rfl (by simp [V.closed, V.closed.closedL, closed_C hc ok, closed_C hd ok2]) at68 rfl (by simp [Tryd.f68]) (by simp [Tryd.f68]) (G_start ?_) σ
  have lc := len_C hc
  have ld := len_C hd
  by_cases h0 : cs.length = ds.length
  case neg =>
    have c0 : ¬ (cs.length : Int) = (ds.length : Int) := by omega
    have hn : ¬ SameL cs ds := fun h => h0 h.1
    simp -implicitDefEqProofs only [Tryd.f68,Wa,Wb,Wc,Wd,We,Wf,Wg,Wh,Wi,Wj,Wk,Wl,Wm,Wn,Zo,Zp,evalT,Nat.reduceLT,Nat.reduceEqDiff,if_true,if_false,reduceIte,Ys,ofVal,ofCell,argT,resT,setT,Y0,Int.reduceEq,Int.reduceLT,Int.reduceLE,Int.reduceNeg,mb,Nat.reduceBEq,tys,stb,tys2,empty_mk,lc,ld,c0]
    simp [oneOr, sealDepth, sealV_bool, hn]
  have c0 : (cs.length : Int) = (ds.length : Int) := by omega
  simp -implicitDefEqProofs only [Tryd.f68,Wa,Wb,Wc,Wd,We,Wf,Wg,Wh,Wi,Wj,Wk,Wl,Wm,Wn,Zo,Zp,evalT,Nat.reduceLT,Nat.reduceEqDiff,if_true,if_false,reduceIte,Ys,ofVal,ofCell,argT,resT,setT,Y0,Int.reduceEq,Int.reduceLT,Int.reduceLE,Int.reduceNeg,mb,Nat.reduceBEq,tys,stb,tys2,empty_mk,lc,ld,c0]
  refine loop_rule (fun m T D σ => D = [] ∧ T 1 = dv ∧ T 2 = .func 69 [] [] ∧ T 15 = cv ∧ T 16 = .int .i64 ds.length ∧ ∃ (i : Nat) (L : List AObj), σ = ⟨L, []⟩ ∧ T 17 = .int .i64 i ∧ i ≤ cs.length ∧ m = cs.length - i ∧ ∀ j, j < i → SameC (cs.getD j Col.none) (ds.getD j Col.none)) ?_ (cs.length - 0) _ _ _
    ⟨rfl, rfl, rfl, rfl, rfl, 0, [], rfl, rfl, by omega, rfl, fun j h => by omega⟩
  rintro m T D σ ⟨rfl, t1, t2, t15, t16, i, L, rfl, t17, hi, rfl, hs⟩
  refine G_start ?_
  by_cases hlt : i < cs.length
  · have c1 : (i : Int) < (ds.length : Int) := by omega
    have e1 : IntKind.i64.wrap ((i : Int) + 1) = ((i + 1 : Nat) : Int) := by rw [wrap_i64 (by omega) (by omega)]; omega
    have hx := idx_C hc hlt
    have hy := idx_C hd (show i < ds.length by omega)
    have hcw := ok.at hlt
    have hdw := ok2.at (show i < ds.length by omega)
    have hC := samecol_call (cs.getD i Col.none) (ds.getD i Col.none) hcw hdw (hw i hlt)
    have hic := isCell_W hcw
    have hid := isCell_W hdw
    have hE : ∀ (X : List AObj) (a b : AObj), (X ++ [a] ++ [b])[X.length]? = some a := fun X a b => by rw [List.getElem?_append_left (by simp)]; exact heap_end _ _
    by_cases hq : SameC (cs.getD i Col.none) (ds.getD i Col.none)
    · rw [decide_eq_true hq] at hC
      have hnx : ∀ j, j < i + 1 → SameC (cs.getD j Col.none) (ds.getD j Col.none) := fun j hj => by
        rcases Nat.lt_or_ge j i with h2 | h2
        · exact hs j h2
        · have : j = i := by omega
          subst this; exact hq
      generalize cs.getD i Col.none = x at *
      generalize ds.getD i Col.none = y at *
      simp -implicitDefEqProofs only [Wa,Wb,Wc,Wd,We,Wf,Wg,Wh,Wi,Wj,Wk,Wl,Wm,Wn,Zo,Zp,evalT,Nat.reduceLT,Nat.reduceEqDiff,if_true,if_false,reduceIte,Ys,ofVal,ofCell,argT,resT,setT,Y0,Int.reduceEq,Int.reduceLT,Int.reduceLE,Int.reduceNeg,mb,Nat.reduceBEq,tys,stb,tys2,t1,t2,t15,t16,t17,c1,e1,hx,hy,agg44,load4_rptr,z44,YW,heap_end,set_end,storeList,List.take_zero,List.drop_zero,List.take_succ_cons,List.drop_succ_cons,List.drop_nil,List.all_cons,List.all_nil,isCell_str,isCell_int,hic,hid,load4_end,hE,load4_ptr (hE _ _ _),hC,Nat.reduceAdd,Nat.reduceLeDiff]
      exact ⟨cs.length - (i + 1), by omega, i + 1, _, rfl, rfl, by omega, rfl, hnx⟩
    · rw [decide_eq_false hq] at hC
      have hn : ¬ SameL cs ds := fun h => hq (h.2 i hlt)
      generalize cs.getD i Col.none = x at *
      generalize ds.getD i Col.none = y at *
      simp -implicitDefEqProofs only [Wa,Wb,Wc,Wd,We,Wf,Wg,Wh,Wi,Wj,Wk,Wl,Wm,Wn,Zo,Zp,evalT,Nat.reduceLT,Nat.reduceEqDiff,if_true,if_false,reduceIte,Ys,ofVal,ofCell,argT,resT,setT,Y0,Int.reduceEq,Int.reduceLT,Int.reduceLE,Int.reduceNeg,mb,Nat.reduceBEq,tys,stb,tys2,t1,t2,t15,t16,t17,c1,e1,hx,hy,agg44,load4_rptr,z44,YW,heap_end,set_end,storeList,List.take_zero,List.drop_zero,List.take_succ_cons,List.drop_succ_cons,List.drop_nil,List.all_cons,List.all_nil,isCell_str,isCell_int,hic,hid,load4_end,hE,load4_ptr (hE _ _ _),hC,Nat.reduceAdd,Nat.reduceLeDiff]
      simp [oneOr, sealDepth, sealV_bool, hn]
  · have c1 : ¬ (i : Int) < (ds.length : Int) := by omega
    have he : SameL cs ds := ⟨h0, fun j hj => hs j (by omega)⟩
    simp -implicitDefEqProofs only [Wa,Wb,Wc,Wd,We,Wf,Wg,Wh,Wi,Wj,Wk,Wl,Wm,Wn,Zo,Zp,evalT,Nat.reduceLT,Nat.reduceEqDiff,if_true,if_false,reduceIte,Ys,ofVal,ofCell,argT,resT,setT,Y0,Int.reduceEq,Int.reduceLT,Int.reduceLE,Int.reduceNeg,mb,Nat.reduceBEq,tys,stb,tys2,t1,t2,t15,t16,t17,c1]
    simp [oneOr, sealDepth, sealV_bool, he]
open Classical in
theorem same_call (nm nm2 : List UInt8) (pb pb2 : Bool) (many many2 : Int) (cv dv : V) (cs ds : List Col) (hc : IsC cv cs) (hd : IsC dv ds) (ok : OkC cs) (ok2 : OkC ds) (hl : cs.length ≤ 1000) (hw : ∀ i, i < cs.length → (cs.getD i Col.none).ws.length ≤ 1000) (σ : S) :
    callFn env (ev env) 33 [.agg [.str nm, .bool pb, .int .i64 many, cv], .agg [.str nm2, .bool pb2, .int .i64 many2, dv]] σ = some (.bool (decide (nm = nm2 ∧ pb = pb2 ∧ many = many2 ∧ SameL cs ds)), σ) := by
  refine callFn_pure rfl rfl (by simp [V.closed, V.closed.closedL, closed_C hc ok, closed_C hd ok2]) at33 rfl (by simp [Tryd.f33]) (by simp [Tryd.f33]) (G_start ?_) σ
  have hS := samecols_call cv dv cs ds hc hd ok ok2 hl hw
  by_cases h1 : nm = nm2
  case neg =>
    simp -implicitDefEqProofs only [Tryd.f33,Wa,Wb,Wc,Wd,We,Wf,Wg,Wh,Wi,Wj,Wk,Wl,Wm,Wn,Zo,Zp,evalT,Nat.reduceLT,Nat.reduceEqDiff,if_true,if_false,reduceIte,Ys,ofVal,ofCell,argT,resT,setT,Y0,Int.reduceEq,Int.reduceLT,Int.reduceLE,Int.reduceNeg,mb,Nat.reduceBEq,tys,stb,tys2,empty_mk,YW,vBin_seql,h1]
    simp [oneOr, sealDepth, sealV_bool, h1]
  by_cases h2 : pb = pb2
  case neg =>
    simp -implicitDefEqProofs only [Tryd.f33,Wa,Wb,Wc,Wd,We,Wf,Wg,Wh,Wi,Wj,Wk,Wl,Wm,Wn,Zo,Zp,evalT,Nat.reduceLT,Nat.reduceEqDiff,if_true,if_false,reduceIte,Ys,ofVal,ofCell,argT,resT,setT,Y0,Int.reduceEq,Int.reduceLT,Int.reduceLE,Int.reduceNeg,mb,Nat.reduceBEq,tys,stb,tys2,empty_mk,YW,vBin_seql,h1,h2]
    simp [oneOr, sealDepth, sealV_bool, h2]
  by_cases h3 : many = many2
  case neg =>
    simp -implicitDefEqProofs only [Tryd.f33,Wa,Wb,Wc,Wd,We,Wf,Wg,Wh,Wi,Wj,Wk,Wl,Wm,Wn,Zo,Zp,evalT,Nat.reduceLT,Nat.reduceEqDiff,if_true,if_false,reduceIte,Ys,ofVal,ofCell,argT,resT,setT,Y0,Int.reduceEq,Int.reduceLT,Int.reduceLE,Int.reduceNeg,mb,Nat.reduceBEq,tys,stb,tys2,empty_mk,YW,vBin_seql,h1,h2,h3]
    simp [oneOr, sealDepth, sealV_bool, h3]
  subst h1 h2 h3
  simp -implicitDefEqProofs only [Tryd.f33,Wa,Wb,Wc,Wd,We,Wf,Wg,Wh,Wi,Wj,Wk,Wl,Wm,Wn,Zo,Zp,evalT,Nat.reduceLT,Nat.reduceEqDiff,if_true,if_false,reduceIte,Ys,ofVal,ofCell,argT,resT,setT,Y0,Int.reduceEq,Int.reduceLT,Int.reduceLE,Int.reduceNeg,mb,Nat.reduceBEq,tys,stb,tys2,empty_mk,YW,vBin_seql,hS]
  simp [oneOr, sealDepth, sealV_bool]
end Go.Proofs.YtbikmhpobflfeaaDoor.C
namespace Go.Proofs.YtbikmhpobflfeaaDoor.C
open Go.Ab
set_option maxHeartbeats 4000000
set_option maxHeartbeats 4000000
set_option maxRecDepth 100000
set_option linter.unusedSimpArgs false
set_option linter.unusedVariables false
set_option linter.unusedSectionVars false
theorem at59 : env.P.funcs[59]? = some Tryd.f59 := by kernel_rfl
theorem at62 : env.P.funcs[62]? = some Tryd.f62 := by kernel_rfl
theorem at26 : env.P.funcs[26]? = some Tryd.f26 := by kernel_rfl
theorem e24 : elemS env 24 = some 9 ∧ bys env 9 = some 16 ∧ zeroN env 9 = some 1 := ⟨by kernel_rfl, by kernel_rfl, by kernel_rfl⟩
theorem e27 : elemS env 27 = some 44 ∧ bys env 44 = some 56 ∧ zeroN env 44 = some 4 := ⟨by kernel_rfl, by kernel_rfl, by kernel_rfl⟩
theorem mb62 : env.mutb 62 3 = true := rfl
theorem mb59 : env.mutb 59 3 = true := rfl
theorem build_m {T : Tm} (L : List AObj) (ts : List Nat) : opT env true T ⟨L, ts⟩ (.buildSlice 27 0 #[]) = some (.hsl L.length 0 0 0 .exact, ⟨L ++ [.cells [] 44], ts⟩) := by
  unfold opT
  simp only [apure, aread, astate, partsO, e27, tys2, Option.bind_some]
  simp [vFill, V.cells, S.push, env]
theorem build_w {T : Tm} (L : List AObj) (ts : List Nat) : opT env true T ⟨L, ts⟩ (.buildSlice 24 0 #[]) = some (.hsl L.length 0 0 0 .exact, ⟨L ++ [.cells [] 9], ts⟩) := by
  unfold opT
  simp only [apure, aread, astate, partsO, e24, tys, Option.bind_some]
  simp [vFill, V.cells, S.push, env]
theorem app_m (L : List AObj) (ts : List Nat) (cs : List Col) (hl : cs.length ≤ 1000) (hn : cs.length ≠ 0) (c : RCap) : appO env true ⟨L ++ [.cells [] 44], ts⟩ 27 27 (.hsl L.length 0 0 0 .exact) (.row (flatC cs) cs.length c) =
    some (.hsl (L.length + 1) 0 cs.length cs.length (.grow 4), ⟨L ++ [.cells [] 44, .cells (flatC cs) 44], ts⟩) := by
  have hnew : ∀ h, vCells h 4 cs.length (.row (flatC cs) cs.length c) = some (flatC cs) := fun h => by simp [vCells, flatC_len, List.take_of_length_le (Nat.le_of_eq (flatC_len cs))]
  have hl2 : cs.length * 56 ≤ lim ∧ cs.length ≤ lim := by have h : lim = 2 ^ 40 := rfl; rw [h]; omega
  unfold appO
  simp only [e27, tys2, vLen, hnew, Option.bind_some, if_true]
  simp [aappend, hn, hl2, vCells, S.push]
theorem app_m0 (L : List AObj) (ts : List Nat) (c : RCap) : appO env true ⟨L ++ [.cells [] 44], ts⟩ 27 27 (.hsl L.length 0 0 0 .exact) (.row [] 0 c) = some (.hsl L.length 0 0 0 .exact, ⟨L ++ [.cells [] 44], ts⟩) := by
  unfold appO
  simp only [e27, tys2, vLen, vCells, Option.bind_some, if_true]
  simp [aappend]
theorem app_w (L : List AObj) (ts : List Nat) (ws : List (List UInt8)) (hl : ws.length ≤ 1000) (hn : ws.length ≠ 0) (c : RCap) : appO env true ⟨L ++ [.cells [] 9], ts⟩ 24 24 (.hsl L.length 0 0 0 .exact) (.row (ws.map V.str) ws.length c) =
    some (.hsl (L.length + 1) 0 ws.length ws.length (.grow 1), ⟨L ++ [.cells [] 9, .cells (ws.map V.str) 9], ts⟩) := by
  have hnew : ∀ h, vCells h 1 ws.length (.row (ws.map V.str) ws.length c) = some (ws.map V.str) := fun h => by simp [vCells, List.take_of_length_le]
  have hl2 : ws.length * 16 ≤ lim ∧ ws.length ≤ lim := by have h : lim = 2 ^ 40 := rfl; rw [h]; omega
  unfold appO
  simp only [e24, tys, vLen, hnew, Option.bind_some, if_true]
  simp [aappend, hn, hl2, vCells, S.push]
theorem app_w0 (L : List AObj) (ts : List Nat) (c : RCap) : appO env true ⟨L ++ [.cells [] 9], ts⟩ 24 24 (.hsl L.length 0 0 0 .exact) (.row [] 0 c) = some (.hsl L.length 0 0 0 .exact, ⟨L ++ [.cells [] 9], ts⟩) := by
  unfold appO
  simp only [e24, tys, vLen, vCells, Option.bind_some, if_true]
  simp [aappend]
def WOK (L : List AObj) (base : Nat) (x : V) : Prop := x = .nilsl ∨ ∃ b m cap ex wc, x = .hsl b 0 m cap ex ∧ base ≤ b ∧ L[b]? = some (.cells wc 9) ∧ m ≤ wc.length ∧ m ≤ 1000
theorem WOK.cell {L : List AObj} {base : Nat} {x : V} (h : WOK L base x) : x.cells = [x] ∧ x.isCell = true := by
  rcases h with rfl | ⟨b, m, cap, ex, wc, rfl, _⟩ <;> exact ⟨rfl, rfl⟩
theorem WOK.app {L : List AObj} {base : Nat} {x : V} (h : WOK L base x) (X : List AObj) : WOK (L ++ X) base x := by
  rcases h with h | ⟨b, m, cap, ex, wc, h1, h2, h3, h4⟩
  · exact .inl h
  · exact .inr ⟨b, m, cap, ex, wc, h1, h2, get_app h3 _, h4⟩
theorem WOK.low {L : List AObj} {base base2 : Nat} {x : V} (h : WOK L base x) (hb : base2 ≤ base) : WOK L base2 x := by
  rcases h with h | ⟨b, m, cap, ex, wc, h1, h2, h3, h4⟩
  · exact .inl h
  · exact .inr ⟨b, m, cap, ex, wc, h1, by omega, h3, h4⟩
theorem WOK.set {L : List AObj} {base : Nat} {x : V} (h : WOK L base x) {B : Nat} {cs : List V} (hB : L[B]? = some (.cells cs 44)) (o : AObj) : WOK (L.set B o) base x := by
  rcases h with h | ⟨b, m, cap, ex, wc, h1, h2, h3, h4⟩
  · exact .inl h
  · refine .inr ⟨b, m, cap, ex, wc, h1, h2, ?_, h4⟩
    have : B ≠ b := by rintro rfl; rw [hB] at h3; simp at h3
    rw [List.getElem?_set_ne this]; exact h3
def cloneX (n : Nat) (w : V) (ws : List (List UInt8)) : V × List AObj := match w with
  | .nilsl => (.nilsl, [])
  | _ => if ws.length = 0 then (.hsl n 0 0 0 .exact, [.cells [] 9]) else (.hsl (n + 1) 0 ws.length ws.length (.grow 1), [.cells [] 9, .cells (ws.map V.str) 9])
theorem clone_call (w : V) (ws : List (List UInt8)) (h : IsW w ws) (hl : ws.length ≤ 1000) (L : List AObj) (ts : List Nat) : callFn env (ev env) 59 [w] ⟨L, ts⟩ = some ((cloneX L.length w ws).1, ⟨L ++ (cloneX L.length w ws).2, ts⟩) ∧ WOK (L ++ (cloneX L.length w ws).2) L.length (cloneX L.length w ws).1 := by
  rcases h with ⟨rfl, rfl⟩ | rfl
  · refine ⟨?_, .inl rfl⟩
    simp only [cloneX]
    rw [List.append_nil]
    refine callFn_eq rfl rfl at59 rfl (by simp [Tryd.f59]) (by simp [Tryd.f59]) (G_start ?_)
    simp -implicitDefEqProofs only [Tryd.f59,Wa,Wb,Wc,Wd,We,Wf,Wg,Wh,Wi,Wj,Wk,Wl,Wm,Wn,Zo,Zp,evalT,Nat.reduceLT,Nat.reduceEqDiff,if_true,if_false,reduceIte,Ys,ofVal,ofCell,argT,resT,setT,Y0,Int.reduceEq,Int.reduceLT,Int.reduceLE,Int.reduceNeg,mb,Nat.reduceBEq,tys,stb,tys2,empty_mk,binO_nil_nil u24]
    simp only [oneOr, and_self]
  · by_cases hn : ws.length = 0
    · have h0 : ws = [] := List.eq_nil_of_length_eq_zero hn
      subst h0
      simp only [cloneX, List.length_nil, if_true]
      refine ⟨?_, .inr ⟨_, _, _, _, [], rfl, Nat.le_refl _, heap_end _ _, Nat.le_refl _, by omega⟩⟩
      refine callFn_eq rfl rfl at59 rfl (by simp [Tryd.f59]) (by simp [Tryd.f59]) (G_start ?_)
      have ha := app_w0 L ts .unk
      simp -implicitDefEqProofs only [Tryd.f59,Wa,Wb,Wc,Wd,We,Wf,Wg,Wh,Wi,Wj,Wk,Wl,Wm,Wn,Zo,Zp,evalT,Nat.reduceLT,Nat.reduceEqDiff,if_true,if_false,reduceIte,Ys,ofVal,ofCell,argT,resT,setT,Y0,Int.reduceEq,Int.reduceLT,Int.reduceLE,Int.reduceNeg,mb,Nat.reduceBEq,tys,stb,tys2,empty_mk,binO_row_nil u24,mb59,build_w,List.map_nil,List.length_nil,ha]
      simp only [oneOr, and_self]
    · simp only [cloneX, hn, if_false]
      refine ⟨?_, .inr ⟨_, _, _, _, ws.map V.str, rfl, by omega, by simp, by simp, hl⟩⟩
      refine callFn_eq rfl rfl at59 rfl (by simp [Tryd.f59]) (by simp [Tryd.f59]) (G_start ?_)
      simp -implicitDefEqProofs only [Tryd.f59,Wa,Wb,Wc,Wd,We,Wf,Wg,Wh,Wi,Wj,Wk,Wl,Wm,Wn,Zo,Zp,evalT,Nat.reduceLT,Nat.reduceEqDiff,if_true,if_false,reduceIte,Ys,ofVal,ofCell,argT,resT,setT,Y0,Int.reduceEq,Int.reduceLT,Int.reduceLE,Int.reduceNeg,mb,Nat.reduceBEq,tys,stb,tys2,empty_mk,binO_row_nil u24,mb59,build_w,app_w L ts ws hl hn .unk]
      simp only [oneOr, and_self]
def Blk (L : List AObj) (base B : Nat) (cs : List Col) (i : Nat) : Prop := ∃ cells, L[B]? = some (.cells cells 44) ∧ cells.length = cs.length * 4 ∧ base ≤ B ∧ ∀ j, j < cs.length → ∃ x, cells[j * 4 + 3]? = some x ∧ (j < i → WOK L base x) ∧ (i ≤ j → x = (cs.getD j Col.none).w)
def colsX (n : Nat) (cv : V) (cs : List Col) : V × List AObj := match cv with
  | .nilsl => (.nilsl, [])
  | _ => if cs.length = 0 then (.hsl n 0 0 0 .exact, [.cells [] 44]) else (.hsl (n + 1) 0 cs.length cs.length (.grow 4), [.cells [] 44, .cells (flatC cs) 44])
theorem cloneC_call (cv : V) (cs : List Col) (h : IsC cv cs) (hl : cs.length ≤ 1000) (L : List AObj) (ts : List Nat) : callFn env (ev env) 62 [cv] ⟨L, ts⟩ = some ((colsX L.length cv cs).1, ⟨L ++ (colsX L.length cv cs).2, ts⟩) ∧
    (((colsX L.length cv cs).1 = .nilsl ∧ cs = []) ∨ ∃ B cap ex, (colsX L.length cv cs).1 = .hsl B 0 cs.length cap ex ∧ Blk (L ++ (colsX L.length cv cs).2) L.length B cs 0 ∧ (cs ≠ [] → B = L.length + 1 ∧ (L ++ (colsX L.length cv cs).2)[B]? = some (.cells (flatC cs) 44))) := by
  rcases h with ⟨rfl, rfl⟩ | rfl
  · refine ⟨?_, .inl ⟨rfl, rfl⟩⟩
    simp only [colsX]
    rw [List.append_nil]
    refine callFn_eq rfl rfl at62 rfl (by simp [Tryd.f62]) (by simp [Tryd.f62]) (G_start ?_)
    simp -implicitDefEqProofs only [Tryd.f62,Wa,Wb,Wc,Wd,We,Wf,Wg,Wh,Wi,Wj,Wk,Wl,Wm,Wn,Zo,Zp,evalT,Nat.reduceLT,Nat.reduceEqDiff,if_true,if_false,reduceIte,Ys,ofVal,ofCell,argT,resT,setT,Y0,Int.reduceEq,Int.reduceLT,Int.reduceLE,Int.reduceNeg,mb,Nat.reduceBEq,tys,stb,tys2,empty_mk,binO_nil_nil u27]
    simp only [oneOr, and_self]
  · by_cases hn : cs.length = 0
    · have h0 : cs = [] := List.eq_nil_of_length_eq_zero hn
      subst h0
      simp only [colsX, List.length_nil, if_true]
      refine ⟨?_, .inr ⟨_, _, _, rfl, ⟨[], heap_end _ _, rfl, Nat.le_refl _, fun j hj => by simp at hj⟩, fun h => absurd rfl h⟩⟩
      refine callFn_eq rfl rfl at62 rfl (by simp [Tryd.f62]) (by simp [Tryd.f62]) (G_start ?_)
      have ha := app_m0 L ts .unk
      have hf : flatC [] = [] := rfl
      simp -implicitDefEqProofs only [Tryd.f62,Wa,Wb,Wc,Wd,We,Wf,Wg,Wh,Wi,Wj,Wk,Wl,Wm,Wn,Zo,Zp,evalT,Nat.reduceLT,Nat.reduceEqDiff,if_true,if_false,reduceIte,Ys,ofVal,ofCell,argT,resT,setT,Y0,Int.reduceEq,Int.reduceLT,Int.reduceLE,Int.reduceNeg,mb,Nat.reduceBEq,tys,stb,tys2,empty_mk,binO_row_nil u27,mb62,build_m,hf,List.length_nil,ha]
      simp only [oneOr, and_self]
    · simp only [colsX, hn, if_false]
      refine ⟨?_, .inr ⟨_, _, _, rfl, ⟨flatC cs, by simp, flatC_len cs, by omega, fun j hj => ⟨_, flatC_w hj, fun h => by omega, fun _ => rfl⟩⟩, fun _ => ⟨rfl, by simp⟩⟩⟩
      refine callFn_eq rfl rfl at62 rfl (by simp [Tryd.f62]) (by simp [Tryd.f62]) (G_start ?_)
      simp -implicitDefEqProofs only [Tryd.f62,Wa,Wb,Wc,Wd,We,Wf,Wg,Wh,Wi,Wj,Wk,Wl,Wm,Wn,Zo,Zp,evalT,Nat.reduceLT,Nat.reduceEqDiff,if_true,if_false,reduceIte,Ys,ofVal,ofCell,argT,resT,setT,Y0,Int.reduceEq,Int.reduceLT,Int.reduceLE,Int.reduceNeg,mb,Nat.reduceBEq,tys,stb,tys2,empty_mk,binO_row_nil u27,mb62,build_m,app_m L ts cs hl hn .unk]
      simp only [oneOr, and_self]
end Go.Proofs.YtbikmhpobflfeaaDoor.C
namespace Go.Proofs.YtbikmhpobflfeaaDoor.C
open Go.Ab
set_option maxHeartbeats 4000000
set_option maxHeartbeats 4000000
set_option maxRecDepth 100000
set_option linter.unusedSimpArgs false
set_option linter.unusedVariables false
set_option linter.unusedSectionVars false
theorem Blk.low {L : List AObj} {base base2 B i : Nat} {cs : List Col} (h : Blk L base B cs i) (hb : base2 ≤ base) : Blk L base2 B cs i := by
  obtain ⟨cells, h1, h2, h3, h4⟩ := h
  refine ⟨cells, h1, h2, by omega, fun j hj => ?_⟩
  obtain ⟨x, x1, x2, x3⟩ := h4 j hj
  exact ⟨x, x1, fun h => (x2 h).low hb, x3⟩
theorem storeOne (cs : List V) (k : Nat) (v : V) (h : k < cs.length) : storeList cs k [v] = cs.set k v := by
  unfold storeList
  apply List.ext_getElem?
  intro i
  rw [List.getElem?_set]
  by_cases h1 : k = i
  · subst h1
    rw [if_pos rfl, if_pos h, List.append_assoc, List.getElem?_append_right (by simp; omega)]
    simp [Nat.min_eq_left (Nat.le_of_lt h)]
  · rw [if_neg h1]
    rcases Nat.lt_or_ge i k with h2 | h2
    · rw [List.append_assoc, List.getElem?_append_left (by simp; omega), List.getElem?_take_of_lt h2]
    · rw [List.getElem?_append_right (by simp; omega), List.getElem?_drop]
      congr 1
      simp [Nat.min_eq_left (Nat.le_of_lt h)]; omega
theorem Blk.step {L : List AObj} {base B i : Nat} {cs : List Col} {cells : List V} (hB : L[B]? = some (.cells cells 44)) (hl : cells.length = cs.length * 4) (hb : base ≤ B) (h4 : ∀ j, j < cs.length → ∃ x, cells[j * 4 + 3]? = some x ∧ (j < i → WOK L base x) ∧ (i ≤ j → x = (cs.getD j Col.none).w)) (hi : i < cs.length)
    {X : List AObj} {v : V} (hv : WOK (L ++ X) base v) : Blk ((L ++ X).set B (.cells (cells.set (i * 4 + 3) v) 44)) base B cs (i + 1) := by
  have hBX : (L ++ X)[B]? = some (.cells cells 44) := get_app hB X
  refine ⟨_, List.getElem?_set_self (List.getElem?_eq_some_iff.1 hBX).1, by simpa using hl, hb, fun j hj => ?_⟩
  obtain ⟨x, x1, x2, x3⟩ := h4 j hj
  by_cases hji : j = i
  · subst hji
    exact ⟨v, List.getElem?_set_self (by omega), fun _ => hv.set hBX _, fun h => by omega⟩
  · refine ⟨x, by rw [List.getElem?_set_ne (by omega)]; exact x1, fun h => ((x2 (by omega)).app X).set hBX _, fun h => x3 (by omega)⟩
theorem V1i {α : Type} {o : Option α} {v : α} {k : α → Prop} (h : o = some v) (g : k v) : V1 o k := ⟨v, h, g⟩
theorem sc_59 (ag : Array Operand) (ts : Array TypeId) : scOp env (.call ⟨.value (.func 59), ag, ts⟩) = true := rfl
def runY (n : Nat) (cs : List Col) (Y : List AObj) : Nat → List AObj × List V
  | 0 => (Y, flatC cs)
  | i + 1 => (((runY n cs Y i).1 ++ (cloneX (n + (runY n cs Y i).1.length) (cs.getD i Col.none).w (cs.getD i Col.none).ws).2).set 3 (AObj.cells ((runY n cs Y i).2.set (i * 4 + 3) (cloneX (n + (runY n cs Y i).1.length) (cs.getD i Col.none).w (cs.getD i Col.none).ws).1) 44),
      (runY n cs Y i).2.set (i * 4 + 3) (cloneX (n + (runY n cs Y i).1.length) (cs.getD i Col.none).w (cs.getD i Col.none).ws).1)
def copyX (n : Nat) (nm : List UInt8) (pb : Bool) (many : Int) (cv : V) (cs : List Col) : V × List AObj :=
  ((colsX (n + 2) cv cs).1, (runY n cs (AObj.cells [.str nm, .bool pb, .int .i64 many, (colsX (n + 2) cv cs).1] 29 :: AObj.cells [.str [], .bool false, .int .i64 0, .nilsl] 29 :: (colsX (n + 2) cv cs).2) cs.length).1.set 1 (AObj.cells [.str nm, .bool pb, .int .i64 many, (colsX (n + 2) cv cs).1] 29))
theorem copy_call (nm : List UInt8) (pb : Bool) (many : Int) (cv : V) (cs : List Col) (hc : IsC cv cs) (ok : OkC cs) (hl : cs.length ≤ 1000) (hw : ∀ i, i < cs.length → (cs.getD i Col.none).ws.length ≤ 1000) (L : List AObj) (ts : List Nat) :
    ∃ v σ', callFn env (ev env) 26 [.agg [.str nm, .bool pb, .int .i64 many, cv]] ⟨L, ts⟩ = some (v, σ') ∧ v = .agg [.str nm, .bool pb, .int .i64 many, (copyX L.length nm pb many cv cs).1] ∧ σ' = ⟨L ++ (copyX L.length nm pb many cv cs).2, ts⟩ ∧
      (((copyX L.length nm pb many cv cs).1 = .nilsl ∧ cs = []) ∨ ∃ B cap ex, (copyX L.length nm pb many cv cs).1 = .hsl B 0 cs.length cap ex ∧ Blk (L ++ (copyX L.length nm pb many cv cs).2) L.length B cs cs.length) := by
  refine callFn_any rfl rfl at26 rfl (by simp [Tryd.f26]) (by simp [Tryd.f26]) (G_start ?_)
  have hic := isCell_C hc
  have hcells : cv.cells = [cv] := by rcases hc with ⟨rfl, _⟩ | rfl <;> rfl
  obtain ⟨hC0, hx0⟩ := cloneC_call cv cs hc hl (L ++ [AObj.cells [.str nm, .bool pb, .int .i64 many, cv] 29] ++ [AObj.cells [.str [], .bool false, .int .i64 0, .nilsl] 29]) ts
  have hLL : (L ++ [AObj.cells [.str nm, .bool pb, .int .i64 many, cv] 29] ++ [AObj.cells [.str [], .bool false, .int .i64 0, .nilsl] 29]).length = L.length + 2 := by simp
  rw [hLL] at hC0 hx0
  unfold copyX
  simp only
  generalize hxe : (colsX (L.length + 2) cv cs).1 = x at *
  generalize hXe : (colsX (L.length + 2) cv cs).2 = X at *
  have hM00 : (L ++ [AObj.cells [.str nm, .bool pb, .int .i64 many, cv] 29] ++ [AObj.cells [.str [], .bool false, .int .i64 0, .nilsl] 29] ++ X).set L.length (.cells [.str nm, .bool pb, .int .i64 many, x] 29) = L ++ (AObj.cells [.str nm, .bool pb, .int .i64 many, x] 29 :: AObj.cells [.str [], .bool false, .int .i64 0, .nilsl] 29 :: X) := by
    simp
  generalize hY0 : AObj.cells [.str nm, .bool pb, .int .i64 many, x] 29 :: AObj.cells [.str [], .bool false, .int .i64 0, .nilsl] 29 :: X = Yq0 at *
  generalize hP : L ++ [AObj.cells [.str nm, .bool pb, .int .i64 many, cv] 29] = L1
  have hL1 : L1.length = L.length + 1 := by rw [← hP]; simp
  generalize hQ : L1 ++ [AObj.cells [.str [], .bool false, .int .i64 0, .nilsl] 29] = L2
  have hL2 : L2.length = L.length + 2 := by rw [← hQ]; simp; omega
  rw [hP, hQ] at hC0 hx0 hM00
  have hC := hC0
  have hx : (x = .nilsl ∧ cs = []) ∨ ∃ B cap ex, x = .hsl B 0 cs.length cap ex ∧ Blk (L2 ++ X) (L.length + 2) B cs 0 ∧ (cs ≠ [] → B = L.length + 3 ∧ (L2 ++ X)[B]? = some (.cells (flatC cs) 44)) := hx0
  have hpl : L1[L.length]? = some (.cells [.str nm, .bool pb, .int .i64 many, cv] 29) := by rw [← hP]; exact heap_end _ _
  have hp2 : L2[L.length]? = some (.cells [.str nm, .bool pb, .int .i64 many, cv] 29) := by rw [← hQ]; exact get_app hpl _
  have hp3 : (L2 ++ X)[L.length]? = some (.cells [.str nm, .bool pb, .int .i64 many, cv] 29) := get_app hp2 _
  have hxc : x.cells = [x] := by rcases hx with ⟨rfl, _⟩ | ⟨B, cap, ex, rfl, _⟩ <;> rfl
  have hxi : x.isCell = true := by rcases hx with ⟨rfl, _⟩ | ⟨B, cap, ex, rfl, _⟩ <;> rfl
  have hxl : vLenT (some (.slice 44)) x = some (.int .i64 cs.length) := by rcases hx with ⟨rfl, rfl⟩ | ⟨B, cap, ex, rfl, _⟩ <;> rfl
  have hs : ∀ o, ((L2 ++ X).set L.length o)[L.length]? = some o := fun o => List.getElem?_set_self (by rw [List.length_append]; omega)
  have hq2 : ∀ o, ((L2 ++ X).set L.length o)[L1.length]? = some (.cells [.str [], .bool false, .int .i64 0, .nilsl] 29) := fun o => by
    rw [List.getElem?_set_ne (by omega)]; exact get_app (by rw [← hQ]; exact heap_end _ _) _
  have hkeep : ∀ o q, q < L.length → ((L2 ++ X).set L.length o)[q]? = L[q]? := fun o q hq => by
    rw [List.getElem?_set_ne (by omega), List.getElem?_append_left (by omega), ← hQ, List.getElem?_append_left (by omega), ← hP, List.getElem?_append_left hq]
  have hx2 : (x = .nilsl ∧ cs = []) ∨ ∃ B cap ex, x = .hsl B 0 cs.length cap ex ∧ Blk ((L2 ++ X).set L.length (.cells [.str nm, .bool pb, .int .i64 many, x] 29)) (L.length + 2) B cs 0 ∧ (cs ≠ [] → B = L.length + 3 ∧ ((L2 ++ X).set L.length (.cells [.str nm, .bool pb, .int .i64 many, x] 29))[B]? = some (.cells (flatC cs) 44)) := by
    rcases hx with h | ⟨B, cap, ex, h1, ⟨cells, h2, h3, h4, h5⟩, h6⟩
    · exact .inl h
    · refine .inr ⟨B, cap, ex, h1, ⟨cells, ?_, h3, by omega, fun j hj => ?_⟩, fun h => ⟨(h6 h).1, ?_⟩⟩
      · rw [List.getElem?_set_ne (by omega)]; exact h2
      · obtain ⟨y, y1, _, y3⟩ := h5 j hj
        exact ⟨y, y1, fun h => by omega, y3⟩
      · rw [List.getElem?_set_ne (by have := (h6 h).1; omega)]; exact (h6 h).2
  have hMl : ∀ o, ((L2 ++ X).set L.length o).length ≥ L.length + 2 := fun o => by simp; omega
  simp -implicitDefEqProofs only [Tryd.f26,Wa,Wb,Wc,Wd,We,Wf,Wg,Wh,Wi,Wj,Wk,Wl,Wm,Wn,Zo,Zp,evalT,Nat.reduceLT,Nat.reduceEqDiff,if_true,if_false,reduceIte,Ys,ofVal,ofCell,argT,resT,setT,Y0,Int.reduceEq,Int.reduceLT,Int.reduceLE,Int.reduceNeg,mb,Nat.reduceBEq,tys,stb,Va,storeList,Nat.reduceAdd,Nat.reduceLeDiff,tys2,z29,empty_mk,hic,hcells,hP,hQ,hpl,hp2,hp3,hC,hxc,hxi,hxl,hs]
  generalize hM0 : (L2 ++ X).set L.length (.cells [.str nm, .bool pb, .int .i64 many, x] 29) = M0 at *
  have hs0 : M0[L.length]? = some (.cells [.str nm, .bool pb, .int .i64 many, x] 29) := by rw [← hM0]; exact hs _
  have hq0 : M0[L1.length]? = some (.cells [.str [], .bool false, .int .i64 0, .nilsl] 29) := by rw [← hM0]; exact hq2 _
  have hk0 : ∀ q, q < L.length → M0[q]? = L[q]? := fun q hq => by rw [← hM0]; exact hkeep _ q hq
  have hl0 : L.length + 2 ≤ M0.length := by rw [← hM0]; exact hMl _
  rw [hL1] at hq0
  simp only [hL1]
  have hM1 : M0 = L ++ (runY L.length cs Yq0 0).1 := hM00
  clear hs hq2 hkeep hMl hM0 hpl hp2 hp3 hC hP hQ hx hC0 hx0 hM00 hLL
  refine loop_rule (fun m T D σ => D = [] ∧ T 1 = .ptr L.length 0 ∧ T 2 = .ptr (L.length + 1) 0 ∧ T 10 = .int .i64 cs.length ∧ ∃ (i : Nat) (M : List AObj), T 11 = .int .i64 i ∧ σ = ⟨M, ts⟩ ∧ i ≤ cs.length ∧ m = cs.length - i ∧
      M[L.length]? = some (.cells [.str nm, .bool pb, .int .i64 many, x] 29) ∧ M[L.length + 1]? = some (.cells [.str [], .bool false, .int .i64 0, .nilsl] 29) ∧ (∀ q, q < L.length → M[q]? = L[q]?) ∧ L.length + 2 ≤ M.length ∧
      M = L ++ (runY L.length cs Yq0 i).1 ∧ ((x = .nilsl ∧ cs = []) ∨ ∃ B cap ex, x = .hsl B 0 cs.length cap ex ∧ Blk M (L.length + 2) B cs i ∧ (cs ≠ [] → B = L.length + 3 ∧ M[B]? = some (.cells (runY L.length cs Yq0 i).2 44)))) ?_ (cs.length - 0) _ _ _
    ⟨rfl, rfl, rfl, rfl, 0, M0, rfl, rfl, by omega, rfl, hs0, hq0, hk0, hl0, hM1, hx2⟩
  clear hs0 hq0 hk0 hl0 hx2 hM1
  rintro m T D σ ⟨rfl, t1, t2, t10, i, M, t11, rfl, hi, rfl, m1, m2, m3, m4, mY, hx⟩
  refine G_start ?_
  have l1 : cellAt M[L.length]? 3 = some x := by rw [m1]; rfl
  by_cases hlt : i < cs.length
  · have c1 : (i : Int) < (cs.length : Int) := by omega
    have e1 : IntKind.i64.wrap ((i : Int) + 1) = ((i + 1 : Nat) : Int) := by rw [wrap_i64 (by omega) (by omega)]; omega
    rcases hx with ⟨_, hx⟩ | ⟨B, cap, ex, rfl, ⟨cells, b1, b2, b3, b4⟩, b5⟩
    · rw [hx] at hlt; simp at hlt
    obtain ⟨b6, b7⟩ := b5 (by rintro rfl; simp at hlt)
    have hce : cells = (runY L.length cs Yq0 i).2 := by rw [b1] at b7; simpa using b7
    have hml : M.length = L.length + (runY L.length cs Yq0 i).1.length := by rw [mY, List.length_append]
    obtain ⟨w, w1, _, w3⟩ := b4 i hlt
    have w3 := w3 (Nat.le_refl _)
    subst w3
    obtain ⟨hW, hv⟩ := clone_call _ _ (ok.at hlt) (hw i hlt) M ts
    have hY1 : (M ++ (cloneX M.length (cs.getD i Col.none).w (cs.getD i Col.none).ws).2).set B (.cells (cells.set (i * 4 + 3) (cloneX M.length (cs.getD i Col.none).w (cs.getD i Col.none).ws).1) 44) = L ++ (runY L.length cs Yq0 (i + 1)).1 := by
      simp only [runY]
      rw [← hce, ← hml]
      rw [show M ++ (cloneX M.length (cs.getD i Col.none).w (cs.getD i Col.none).ws).2 = L ++ ((runY L.length cs Yq0 i).1 ++ (cloneX M.length (cs.getD i Col.none).w (cs.getD i Col.none).ws).2) by rw [← List.append_assoc, ← mY], List.set_append_right _ _ (by omega), b6, show L.length + 3 - L.length = 3 by omega]
    have hY2 : (runY L.length cs Yq0 (i + 1)).2 = cells.set (i * 4 + 3) (cloneX M.length (cs.getD i Col.none).w (cs.getD i Col.none).ws).1 := by
      simp only [runY]; rw [← hce, ← hml]
    generalize (cloneX M.length (cs.getD i Col.none).w (cs.getD i Col.none).ws).1 = v at *
    generalize (cloneX M.length (cs.getD i Col.none).w (cs.getD i Col.none).ws).2 = Y at *
    have hib : vIndexAddr 4 (.hsl B 0 cs.length cap ex) (.int .i64 (i : Int)) = some (.ptr B (i * 4)) := by rw [index_hsl, if_pos (by omega), Int.toNat_natCast, Nat.zero_add]
    have lw : cellAt M[B]? (i * 4 + 3) = some (cs.getD i Col.none).w := by rw [b1, YB]; exact w1
    have hst : storeAt ⟨M ++ Y, ts⟩ [v] B (i * 4 + 3) (M ++ Y)[B]? = some ⟨(M ++ Y).set B (.cells (cells.set (i * 4 + 3) v) 44), ts⟩ := by
      rw [get_app b1, YE, if_pos ⟨by simp; omega, by simp [hv.cell.2]⟩, storeOne _ _ _ (by omega)]; rfl
    have hvc := hv.cell.1
    have hN := Blk.step b1 b2 b3 b4 hlt (hv.low m4)
    simp -implicitDefEqProofs only [Wa,Wb,Wc,Wd,We,Wf,Wg,Wh,Wi,Wj,Wk,Wl,Wm,Wn,Zo,Zp,evalT,Nat.reduceLT,Nat.reduceEqDiff,if_true,if_false,reduceIte,Ys,ofVal,ofCell,argT,resT,setT,Y0,Int.reduceEq,Int.reduceLT,Int.reduceLE,Int.reduceNeg,mb,Nat.reduceBEq,tys,stb,tys2,t1,t2,t10,t11,c1,m1]
    refine G_late rfl (fun s => s.heap[L.length]? = some (.cells [.str nm, .bool pb, .int .i64 many, .hsl B 0 cs.length cap ex] 29) ∧ s.heap[B]? = some (.cells cells 44)) 2 (fun _ => ⟨m1, b1⟩) (by kernel_rfl) (by kernel_rfl) ?_
    simp -implicitDefEqProofs only [Wa,Wb,Wc,Wd,We,Wf,Wg,Wh,Wi,Wj,Wk,Wl,Wm,Wn,Zo,Zp,evalT,Nat.reduceLT,Nat.reduceEqDiff,if_true,if_false,reduceIte,Ys,ofVal,ofCell,argT,resT,setT,Y0,Int.reduceEq,Int.reduceLT,Int.reduceLE,Int.reduceNeg,mb,Nat.reduceBEq,tys,stb,tys2,t1,t2,t10,t11,GM_nil,GM_op,GMS_some,GMS_none,GMS_ite,GMS_nite,l1,hib,lw,hW,hvc,hst,e1,sc_59,sc_load,sc_move,sc_indexAddr,sc_fieldAddr,rd_fieldAddr,sc_store,rd_store,rd_load,rd_move,rd_indexAddr,rd_call,aread_load]
    have hBne : B ≠ L.length := by omega
    refine ⟨fun s h => by rw [h.1]; rfl, fun s h => by rw [h.1]; rfl, fun s h => by rw [h.2, YB]; exact w1, ⟨get_app m1 _, get_app b1 _⟩, fun h => by omega, cs.length - (i + 1), by omega, i + 1, _, rfl, rfl, by omega, rfl, ?_, ?_, fun q hq => ?_, by simp; omega, hY1, .inr ⟨B, cap, ex, rfl, hN, fun _ => ⟨b6, by rw [hY2]; exact List.getElem?_set_self (by have := (List.getElem?_eq_some_iff.1 b1).1; simp; omega)⟩⟩⟩
    · rw [List.getElem?_set_ne hBne]; exact get_app m1 _
    · rw [List.getElem?_set_ne (by omega)]; exact get_app m2 _
    · rw [List.getElem?_set_ne (by omega), List.getElem?_append_left (by omega)]; exact m3 q hq
  · have c1 : ¬ (i : Int) < (cs.length : Int) := by omega
    have hie : i = cs.length := by omega
    subst hie
    have hxc : x.isCell = true := by rcases hx with ⟨rfl, _⟩ | ⟨B, cap, ex, rfl, _⟩ <;> rfl
    have hm2 : (M.set (L.length + 1) (.cells [.str nm, .bool pb, .int .i64 many, x] 29))[L.length + 1]? = some (.cells [.str nm, .bool pb, .int .i64 many, x] 29) := List.getElem?_set_self (by omega)
    simp -implicitDefEqProofs only [Wa,Wb,Wc,Wd,We,Wf,Wg,Wh,Wi,Wj,Wk,Wl,Wm,Wn,Zo,Zp,evalT,Nat.reduceLT,Nat.reduceEqDiff,if_true,if_false,reduceIte,Ys,ofVal,ofCell,argT,resT,setT,Y0,Int.reduceEq,Int.reduceLT,Int.reduceLE,Int.reduceNeg,mb,Nat.reduceBEq,tys,stb,Va,storeList,Nat.reduceAdd,Nat.reduceLeDiff,tys2,t1,t2,t10,t11,c1,m1,m2,agg29,load4_ptr m1,isCell_str,isCell_bool,isCell_int,hxc]
    have hfin : M.set (L.length + 1) (.cells [.str nm, .bool pb, .int .i64 many, x] 29) = L ++ (runY L.length cs Yq0 cs.length).1.set 1 (AObj.cells [.str nm, .bool pb, .int .i64 many, x] 29) := by
      rw [mY, List.set_append_right _ _ (by omega), show L.length + 1 - L.length = 1 by omega]
    refine V1i (v := [.agg [.str nm, .bool pb, .int .i64 many, x]]) (by rw [load4_ptr hm2]; rfl) ⟨rfl, by rw [hfin], ?_⟩
    rw [← hfin]
    rcases hx with h | ⟨B, cap, ex, h1, ⟨cells, h2, h3, h4, h5⟩, _⟩
    · exact .inl h
    · refine .inr ⟨B, cap, ex, h1, cells, ?_, h3, by omega, fun j hj => ?_⟩
      · rw [List.getElem?_set_ne (by omega)]; exact h2
      · obtain ⟨y, y1, y2, y3⟩ := h5 j hj
        refine ⟨y, y1, fun h => ?_, y3⟩
        rcases y2 h with h | ⟨b, m, cap, ex, wc, z1, z2, z3, z4⟩
        · exact .inl h
        · exact .inr ⟨b, m, cap, ex, wc, z1, by omega, by rw [List.getElem?_set_ne (by omega)]; exact z3, z4⟩
end Go.Proofs.YtbikmhpobflfeaaDoor.C
namespace Go.Proofs.YtbikmhpobflfeaaDoor.C
open Go.Ab
set_option maxHeartbeats 4000000
set_option maxHeartbeats 4000000
set_option maxRecDepth 100000
set_option linter.unusedSimpArgs false
set_option linter.unusedVariables false
set_option linter.unusedSectionVars false
theorem at6 : env.P.funcs[6]? = some Tryd.f6 := by kernel_rfl
theorem ia_fcall (f : FuncId) (ag : Array Operand) (ts : Array TypeId) : isAlloc (.call ⟨.value (.func f), ag, ts⟩) = false := rfl
abbrev oS (nm : List UInt8) (pb : Bool) (many : Int) (v : V) : AObj := .cells [.str nm, .bool pb, .int .i64 many, v] 29
theorem region3 {Q : Post} {ks : List Kt} {T : Tm} {nm : List UInt8} {pb : Bool} {many : Int} {cv : V} {cs : List Col} (hc : IsC cv cs) (ok : OkC cs) (hl : cs.length ≤ 100) (hw : ∀ i, i < cs.length → (cs.getD i Col.none).ws.length ≤ 100) {B : AObj} (t2 : T 2 = .ptr 0 0)
    (h : ∀ (T' : Tm), T' 2 = T 2 → T' 3 = T 3 → T' 5 = .ptr 2 0 → T' 6 = .ptr 3 0 → G env 6 none 71 Q ks .skip T' [] ⟨[oS nm pb many cv, B, oS nm pb many (copyX 4 nm pb many cv cs).1, oS nm pb many (copyV cs)] ++ (copyX 4 nm pb many cv cs).2, []⟩) :
    G env 6 none 71 Q ks (regB 3 (bodyOf Tryd.f6)) T [] ⟨[oS nm pb many cv, B], []⟩ := by
  simp only [bodyOf, Tryd.f6, Option.getD_some, regB, Option.or, Nat.reduceEqDiff, if_false, if_true, reduceIte]
  have hcp : ∀ (r2 r3 : AObj), callFn env (ev env) 26 [.agg [.str nm, .bool pb, .int .i64 many, cv]] ⟨[oS nm pb many cv, B, r2, r3], []⟩ = some (.agg [.str nm, .bool pb, .int .i64 many, (copyX 4 nm pb many cv cs).1], ⟨[oS nm pb many cv, B, r2, r3] ++ (copyX 4 nm pb many cv cs).2, []⟩) := fun r2 r3 => by
    obtain ⟨_, _, h1, rfl, rfl, _⟩ := copy_call nm pb many cv cs hc ok (by omega) (fun i hi => by have := hw i hi; omega) [oS nm pb many cv, B, r2, r3] []
    exact h1
  have hxc : (copyX 4 nm pb many cv cs).1.isCell = true := by
    obtain ⟨_, _, _, _, _, hx⟩ := copy_call nm pb many cv cs hc ok (by omega) (fun i hi => by have := hw i hi; omega) [oS nm pb many cv, B, B, B] []
    have e : [oS nm pb many cv, B, B, B].length = 4 := rfl
    rw [e] at hx
    rcases hx with ⟨e, _⟩ | ⟨_, _, _, e, _⟩ <;> rw [e] <;> rfl
  have hoc : (copyV cs).isCell = true := isCell_C (isC_copy cs)
  have hrc := call_of hk22 (YtbikmhpobflfeaaDoor.copy_call nm pb many cv cs hc ok hl hw) (ev env)
  generalize (copyX 4 nm pb many cv cs).1 = x at *
  generalize (copyX 4 nm pb many cv cs).2 = X at *
  generalize copyV cs = y at *
  obtain ⟨St, hSt⟩ : ∃ St : Nat → S, ∀ c, St c = ⟨[oS nm pb many cv, B, if c.testBit 6 = true then oS nm pb many x else if c.testBit 4 = true then AObj.cells [.str [], .bool false, .int .i64 0, .nilsl] 29 else .resv, if c.testBit 7 = true then oS nm pb many y else if c.testBit 5 = true then AObj.cells [.str [], .bool false, .int .i64 0, .nilsl] 29 else .resv] ++ (if c.testBit 1 = true then X else []), []⟩ := ⟨_, fun c => rfl⟩
  have hI : ∀ j, j ≠ 1 → j ≠ 4 → j ≠ 5 → j ≠ 6 → j ≠ 7 → ∀ c, St (c ||| 2 ^ j) = St c := fun j h1 h2 h3 h4 h5 c => by
    rw [hSt, hSt]
    simp only [tb_or, h1, h2, h3, h4, h5, decide_false, Bool.or_false]
  refine G_set rfl St (L := [.cells [.str [], .bool false, .int .i64 0, .nilsl] 29, .cells [.str [], .bool false, .int .i64 0, .nilsl] 29]) (masks := [0, 1, 0, 7, 0, 0, 63, 127]) (by kernel_rfl) (by kernel_rfl) (by kernel_rfl) (by kernel_rfl) (by kernel_rfl) (by rw [hSt]; simp) ?_
  have i0 := hI 0 (by decide) (by decide) (by decide) (by decide) (by decide)
  have i2 := hI 2 (by decide) (by decide) (by decide) (by decide) (by decide)
  have i3 := hI 3 (by decide) (by decide) (by decide) (by decide) (by decide)
  have l0 : ∀ c, loadCellsV (St c).heap 4 (.ptr 0 0) = some [.str nm, .bool pb, .int .i64 many, cv] := fun c => by rw [hSt]; rfl
  have k0 : ∀ a b c : AObj, loadCellsV [oS nm pb many cv, a, b, c] 4 (.ptr 0 0) = some [.str nm, .bool pb, .int .i64 many, cv] := fun a b c => rfl
  have k1 : ∀ (a b c : AObj) (X : List AObj), loadCellsV (oS nm pb many cv :: a :: b :: c :: X) 4 (.ptr 0 0) = some [.str nm, .bool pb, .int .i64 many, cv] := fun a b c X => rfl
  simp -implicitDefEqProofs only [Wa,Wb,Wc,Wd,We,Wf,Wg,Wh,Wi,Wj,Wk,Wl,Wm,Wn,Zo,Zp,evalT,Nat.reduceLT,Nat.reduceEqDiff,if_true,if_false,reduceIte,Ys,ofVal,ofCell,argT,resT,setT,Y0,Int.reduceEq,Int.reduceLT,Int.reduceLE,Int.reduceNeg,mb,Nat.reduceBEq,tys,stb,Va,storeList,Nat.reduceAdd,Nat.reduceLeDiff,tys2,agg29,z29,GZ_nil,GZ_alloc,GZ_op,GZS_some,GZS_none,GZS_ite,GZS_nite,Qv,ia_fcall,Qp,Qs,t2,k0,k1,l0,hcp,hrc,i0,i2,i3,isCell_str,isCell_bool,isCell_int,hxc,hoc]
  refine ⟨fun _ _ _ => trivial, ?_, fun _ _ _ => trivial, fun _ _ _ => trivial, ?_, ?_, ?_, ?_, ?_, ?_⟩
  · rintro c _ ⟨a1, a2, a3⟩
    have b6 : c.testBit 6 = false := a3 6 (by decide)
    have b7 : c.testBit 7 = false := a3 7 (by decide)
    rw [hSt, hSt]
    simp only [tb_or, a1, b6, b7, decide_true, Bool.or_true, Bool.false_eq_true, if_false, if_true, Nat.reduceEqDiff, decide_false, Bool.or_false, List.append_nil]
    exact hcp _ _
  · rintro c _ ⟨a1, a2, a3⟩
    have b6 : c.testBit 6 = false := a3 6 (by decide)
    refine ⟨29, _, rfl, z29, ?_, ?_⟩
    · rw [hSt]
      simp only [a1, b6, Bool.false_eq_true, if_false]
      rfl
    · rw [hSt, hSt]
      simp only [tb_or, a1, b6, decide_true, Bool.or_true, Bool.false_eq_true, if_false, if_true, Nat.reduceEqDiff, decide_false, Bool.or_false, S.set]
      rfl
  · rintro c _ ⟨a1, a2, a3⟩
    have b7 : c.testBit 7 = false := a3 7 (by decide)
    refine ⟨29, _, rfl, z29, ?_, ?_⟩
    · rw [hSt]
      simp only [a1, b7, Bool.false_eq_true, if_false]
      rfl
    · rw [hSt, hSt]
      simp only [tb_or, a1, b7, decide_true, Bool.or_true, Bool.false_eq_true, if_false, if_true, Nat.reduceEqDiff, decide_false, Bool.or_false, S.set]
      rfl
  · rintro c _ ⟨a1, a2, a3⟩
    have b1 := a2 1 (by decide) (by decide)
    have b4 := a2 4 (by decide) (by decide)
    have b5 := a2 5 (by decide) (by decide)
    have b7 : c.testBit 7 = false := a3 7 (by decide)
    rw [hSt, hSt]
    simp only [tb_or, a1, b1, b4, b5, b7, decide_true, Bool.or_true, Bool.false_eq_true, if_false, if_true, Nat.reduceEqDiff, decide_false, Bool.or_false]
    simp -implicitDefEqProofs only [Wa,Wb,Wc,Wd,We,Wf,Wg,Wh,Wi,Wj,Wk,Wl,Wm,Wn,Zo,Zp,evalT,Nat.reduceLT,Nat.reduceEqDiff,if_true,if_false,reduceIte,Ys,ofVal,ofCell,argT,resT,setT,Y0,Int.reduceEq,Int.reduceLT,Int.reduceLE,Int.reduceNeg,mb,Nat.reduceBEq,tys,stb,Va,storeList,Nat.reduceAdd,Nat.reduceLeDiff,isCell_str,isCell_bool,isCell_int,hxc]
  · rintro c _ ⟨a1, a2, a3⟩
    have b1 := a2 1 (by decide) (by decide)
    have b4 := a2 4 (by decide) (by decide)
    have b5 := a2 5 (by decide) (by decide)
    have b6 := a2 6 (by decide) (by decide)
    rw [hSt, hSt]
    simp only [tb_or, a1, b1, b4, b5, b6, decide_true, Bool.or_true, Bool.false_eq_true, if_false, if_true, Nat.reduceEqDiff, decide_false, Bool.or_false]
    simp -implicitDefEqProofs only [Wa,Wb,Wc,Wd,We,Wf,Wg,Wh,Wi,Wj,Wk,Wl,Wm,Wn,Zo,Zp,evalT,Nat.reduceLT,Nat.reduceEqDiff,if_true,if_false,reduceIte,Ys,ofVal,ofCell,argT,resT,setT,Y0,Int.reduceEq,Int.reduceLT,Int.reduceLE,Int.reduceNeg,mb,Nat.reduceBEq,tys,stb,Va,storeList,Nat.reduceAdd,Nat.reduceLeDiff,isCell_str,isCell_bool,isCell_int,hoc]
  · rintro c hc
    rw [hSt]
    simp only [hc 1 (by decide), hc 6 (by decide), hc 7 (by decide), if_true]
    rfl
  · exact h _ rfl rfl rfl rfl
end Go.Proofs.YtbikmhpobflfeaaDoor.C
namespace Go.Proofs.YtbikmhpobflfeaaDoor.C
open Go.Ab
set_option maxHeartbeats 4000000
set_option maxHeartbeats 4000000
set_option maxRecDepth 100000
set_option linter.unusedSimpArgs false
set_option linter.unusedVariables false
set_option linter.unusedSectionVars false
theorem Blk.name {L : List AObj} {base B : Nat} {cs : List Col} {i : Nat} {v : V} {cells : List V} (hB : L[B]? = some (.cells cells 44)) (h : Blk L base B cs cs.length) (hi : i < cs.length) : Blk (L.set B (.cells (cells.set (i * 4) v) 44)) base B cs cs.length := by
  obtain ⟨cells', h1, h2, h3, h4⟩ := h
  rw [hB] at h1
  obtain rfl : cells = cells' := by simpa using h1
  refine ⟨_, List.getElem?_set_self (List.getElem?_eq_some_iff.1 hB).1, by simpa using h2, h3, fun j hj => ?_⟩
  obtain ⟨x, x1, x2, x3⟩ := h4 j hj
  exact ⟨x, by rw [List.getElem?_set_ne (by omega)]; exact x1, fun h => (x2 h).set hB _, x3⟩
theorem WOK.word {L : List AObj} {base : Nat} {x : V} (h : WOK L base x) {b : Nat} {wc : List V} (hb : L[b]? = some (.cells wc 9)) (k : Nat) (v : V) : WOK (L.set b (.cells (wc.set k v) 9)) base x := by
  rcases h with h | ⟨b', m, cap, ex, wc', h1, h2, h3, h4, h5⟩
  · exact .inl h
  · by_cases hbb : b = b'
    · subst hbb
      rw [hb] at h3
      obtain rfl : wc = wc' := by simpa using h3
      exact .inr ⟨b, m, cap, ex, _, h1, h2, List.getElem?_set_self (List.getElem?_eq_some_iff.1 hb).1, by simpa using h4, h5⟩
    · exact .inr ⟨b', m, cap, ex, wc', h1, h2, by rw [List.getElem?_set_ne hbb]; exact h3, h4, h5⟩
theorem Blk.word {L : List AObj} {base B : Nat} {cs : List Col} {b : Nat} {wc : List V} (hb : L[b]? = some (.cells wc 9)) (h : Blk L base B cs cs.length) (k : Nat) (v : V) : Blk (L.set b (.cells (wc.set k v) 9)) base B cs cs.length := by
  obtain ⟨cells, h1, h2, h3, h4⟩ := h
  have hne : b ≠ B := by rintro rfl; rw [hb] at h1; simp at h1
  refine ⟨cells, by rw [List.getElem?_set_ne hne]; exact h1, h2, h3, fun j hj => ?_⟩
  obtain ⟨x, x1, x2, x3⟩ := h4 j hj
  exact ⟨x, x1, fun h => (x2 h).word hb k v, x3⟩
def Low (M : List AObj) (a b c d : AObj) : Prop := M[0]? = some a ∧ M[1]? = some b ∧ M[2]? = some c ∧ M[3]? = some d
theorem Low.set {M : List AObj} {a b c d : AObj} (h : Low M a b c d) {q : Nat} (hq : 4 ≤ q) (o : AObj) : Low (M.set q o) a b c d := by
  obtain ⟨h1, h2, h3, h4⟩ := h
  exact ⟨by rw [List.getElem?_set_ne (by omega)]; exact h1, by rw [List.getElem?_set_ne (by omega)]; exact h2, by rw [List.getElem?_set_ne (by omega)]; exact h3, by rw [List.getElem?_set_ne (by omega)]; exact h4⟩
theorem turn_loop {Q : Post} {ks : List Kt} {T : Tm} {M0 : List AObj} {a b d : AObj} {nm : List UInt8} {pb : Bool} {many : Int} {x : V} {cs : List Col} (hl : cs.length ≤ 100) (t2 : T 2 = .ptr 0 0) (t3 : T 3 = .ptr 1 0) (t5 : T 5 = .ptr 2 0) (t6 : T 6 = .ptr 3 0) (t7 : T 7 = .int .i64 0)
    (hL : Low M0 a b (oS nm pb many x) d) (hx : (x = .nilsl ∧ cs = []) ∨ ∃ B cap ex, x = .hsl B 0 cs.length cap ex ∧ Blk M0 4 B cs cs.length)
    (h : ∀ (T' : Tm) (M : List AObj), T' 2 = .ptr 0 0 → T' 3 = .ptr 1 0 → T' 6 = .ptr 3 0 → Low M a b (oS nm pb many x) d → G env 6 none 71 Q ks .skip T' [] ⟨M, []⟩) :
    wpLoop env 6 none 71 (loopB 0 (bodyOf Tryd.f6)) T [] ⟨M0, []⟩ (Kt.post env 6 none 71 Q (.blk 0 :: ks)) := by
  simp only [bodyOf, Tryd.f6, Option.getD_some, loopB, blkC, Option.or, Nat.reduceEqDiff, if_false, if_true, reduceIte]
  refine loop_rule (fun m T D σ => D = [] ∧ T 2 = .ptr 0 0 ∧ T 3 = .ptr 1 0 ∧ T 5 = .ptr 2 0 ∧ T 6 = .ptr 3 0 ∧ ∃ (i : Nat) (M : List AObj), T 7 = .int .i64 i ∧ σ = ⟨M, []⟩ ∧ i ≤ cs.length ∧ m = cs.length - i ∧ Low M a b (oS nm pb many x) d ∧ ((x = .nilsl ∧ cs = []) ∨ ∃ B cap ex, x = .hsl B 0 cs.length cap ex ∧ Blk M 4 B cs cs.length)) ?_ (cs.length - 0) _ _ _
    ⟨rfl, t2, t3, t5, t6, 0, M0, t7, rfl, by omega, rfl, hL, hx⟩
  clear t2 t3 t5 t6 t7 hL hx
  rintro m T D σ ⟨rfl, t2, t3, t5, t6, i, M, t7, rfl, hi, rfl, hL, hx⟩
  refine G_start ?_
  have hxl : vLenT (some (.slice 44)) x = some (.int .i64 cs.length) := by rcases hx with ⟨rfl, rfl⟩ | ⟨B, cap, ex, rfl, _⟩ <;> rfl
  have lx : ∀ M' a b c, Low M' a b (oS nm pb many x) c → cellAt M'[2]? 3 = some x := fun M' a b c h => by rw [h.2.2.1]; rfl
  have l1 := lx M _ _ _ hL
  by_cases hlt : i < cs.length
  · have c1 : (i : Int) < (cs.length : Int) := by omega
    have e1 : IntKind.i64.wrap ((i : Int) + 1) = ((i + 1 : Nat) : Int) := by rw [wrap_i64 (by omega) (by omega)]; omega
    rcases hx with ⟨_, hx⟩ | ⟨B, cap, ex, rfl, hB⟩
    · rw [hx] at hlt; simp at hlt
    have hB0 := hB
    obtain ⟨cells, b1, b2, b3, b4⟩ := hB0
    have hib : vIndexAddr 4 (.hsl B 0 cs.length cap ex) (.int .i64 (i : Int)) = some (.ptr B (i * 4)) := by rw [index_hsl, if_pos (by omega), Int.toNat_natCast, Nat.zero_add]
    have hst : storeAt ⟨M, []⟩ [.str [111, 116, 104, 101, 114]] B (i * 4) M[B]? = some ⟨M.set B (.cells (cells.set (i * 4) (.str [111, 116, 104, 101, 114])) 44), []⟩ := by
      rw [b1, YE, if_pos ⟨by simp; omega, rfl⟩, storeOne _ _ _ (by omega)]; rfl
    have hN := Blk.name (v := .str [111, 116, 104, 101, 114]) b1 hB hlt
    have hL2 := hL.set b3 (.cells (cells.set (i * 4) (.str [111, 116, 104, 101, 114])) 44)
    have hsc : (V.str [111, 116, 104, 101, 114]).cells = [.str [111, 116, 104, 101, 114]] := rfl
    simp -implicitDefEqProofs only [Wa,Wb,Wc,Wd,We,Wf,Wg,Wh,Wi,Wj,Wk,Wl,Wm,Wn,Zo,Zp,evalT,Nat.reduceLT,Nat.reduceEqDiff,if_true,if_false,reduceIte,Ys,ofVal,ofCell,argT,resT,setT,Y0,Int.reduceEq,Int.reduceLT,Int.reduceLE,Int.reduceNeg,mb,Nat.reduceBEq,tys,stb,tys2,t2,t3,t5,t6,t7,l1,hxl,c1,hib,hst,hsc]
    generalize M.set B (.cells (cells.set (i * 4) (.str [111, 116, 104, 101, 114])) 44) = M1 at *
    clear hst b1 b2 b4 hB hL l1
    have hN0 := hN
    obtain ⟨cells1, d1, d2, d3, d4⟩ := hN0
    obtain ⟨y, y1, y2, _⟩ := d4 i hlt
    have y2 := y2 hlt
    have ly : cellAt (some (.cells cells1 44)) (i * 4 + 3) = some y := by rw [YB]; exact y1
    obtain ⟨n, hyl, hyn⟩ : ∃ n : Nat, vLenT (some (.slice 9)) y = some (.int .i64 n) ∧ n ≤ 1000 := by
      rcases y2 with rfl | ⟨b', m, cap, ex, wc', rfl, _, _, _, h5⟩
      · exact ⟨0, rfl, by omega⟩
      · exact ⟨m, rfl, h5⟩
    refine loop_rule (fun m T D σ => D = [] ∧ T 2 = .ptr 0 0 ∧ T 3 = .ptr 1 0 ∧ T 5 = .ptr 2 0 ∧ T 6 = .ptr 3 0 ∧ T 7 = .int .i64 i ∧ ∃ (k : Nat) (M2 : List AObj), T 8 = .int .i64 k ∧ σ = ⟨M2, []⟩ ∧ k ≤ n ∧ m = n - k ∧ Low M2 a b (oS nm pb many (.hsl B 0 cs.length cap ex)) d ∧ M2[B]? = some (.cells cells1 44) ∧ Blk M2 4 B cs cs.length ∧ WOK M2 4 y) ?_ (n - 0) _ _ _
      ⟨rfl, t2, t3, t5, t6, t7, 0, M1, rfl, rfl, by omega, rfl, hL2, d1, hN, y2⟩
    clear hL2 d1 hN y2 t2 t3 t5 t6 t7
    rintro m T D σ ⟨rfl, t2, t3, t5, t6, t7, k, M2, t8, rfl, hk, rfl, hL, d1, hN, y2⟩
    refine G_start ?_
    have l1 := lx M2 _ _ _ hL
    have ly2 : cellAt M2[B]? (i * 4 + 3) = some y := by rw [d1]; exact ly
    by_cases hkn : k < n
    · have c2 : (k : Int) < (n : Int) := by omega
      have e2 : IntKind.i64.wrap ((k : Int) + 1) = ((k + 1 : Nat) : Int) := by rw [wrap_i64 (by omega) (by omega)]; omega
      rcases y2 with rfl | ⟨b', m, cap', ex', wc', rfl, z1, z2, z3, z4⟩
      · simp [vLenT] at hyl; omega
      have hmn : m = n := by simp [vLenT] at hyl; omega
      subst hmn
      have hne : b' ≠ B := by rintro rfl; rw [d1] at z2; simp at z2
      have hiw : vIndexAddr 1 (.hsl b' 0 m cap' ex') (.int .i64 (k : Int)) = some (.ptr b' k) := by rw [index_hsl, if_pos (by omega), Int.toNat_natCast, Nat.zero_add, Nat.mul_one]
      have hst : storeAt ⟨M2, []⟩ [.str [111, 116, 104, 101, 114]] b' k M2[b']? = some ⟨M2.set b' (.cells (wc'.set k (.str [111, 116, 104, 101, 114])) 9), []⟩ := by
        rw [z2, YE, if_pos ⟨by simp; omega, rfl⟩, storeOne _ _ _ (by omega)]; rfl
      simp -implicitDefEqProofs only [Wa,Wb,Wc,Wd,We,Wf,Wg,Wh,Wi,Wj,Wk,Wl,Wm,Wn,Zo,Zp,evalT,Nat.reduceLT,Nat.reduceEqDiff,if_true,if_false,reduceIte,Ys,ofVal,ofCell,argT,resT,setT,Y0,Int.reduceEq,Int.reduceLT,Int.reduceLE,Int.reduceNeg,mb,Nat.reduceBEq,tys,stb,tys2,t2,t3,t5,t6,t7,t8,l1,hib,ly2,hyl,c2,hiw,hst,hsc,e2]
      exact ⟨m - (k + 1), by omega, k + 1, _, rfl, rfl, by omega, rfl, hL.set z1 _, by rw [List.getElem?_set_ne hne]; exact d1, hN.word z2 _ _, WOK.word (.inr ⟨b', m, cap', ex', wc', rfl, z1, z2, z3, z4⟩) z2 _ _⟩
    · have c2 : ¬ (k : Int) < (n : Int) := by omega
      simp -implicitDefEqProofs only [Wa,Wb,Wc,Wd,We,Wf,Wg,Wh,Wi,Wj,Wk,Wl,Wm,Wn,Zo,Zp,evalT,Nat.reduceLT,Nat.reduceEqDiff,if_true,if_false,reduceIte,Ys,ofVal,ofCell,argT,resT,setT,Y0,Int.reduceEq,Int.reduceLT,Int.reduceLE,Int.reduceNeg,mb,Nat.reduceBEq,tys,stb,tys2,t2,t3,t5,t6,t7,t8,l1,hib,ly2,hyl,c2,e1]
      exact ⟨cs.length - (i + 1), by omega, i + 1, M2, rfl, rfl, by omega, rfl, hL, .inr ⟨B, cap, ex, rfl, hN⟩⟩
  · have c1 : ¬ (i : Int) < (cs.length : Int) := by omega
    simp -implicitDefEqProofs only [Wa,Wb,Wc,Wd,We,Wf,Wg,Wh,Wi,Wj,Wk,Wl,Wm,Wn,Zo,Zp,evalT,Nat.reduceLT,Nat.reduceEqDiff,if_true,if_false,reduceIte,Ys,ofVal,ofCell,argT,resT,setT,Y0,Int.reduceEq,Int.reduceLT,Int.reduceLE,Int.reduceNeg,mb,Nat.reduceBEq,tys,stb,tys2,t2,t3,t5,t6,t7,l1,hxl,c1]
    exact h _ M t2 t3 t6 hL
open Classical in
theorem copies_found (s r : Sch) (hg : GoodS s) (hr : GoodS r) : Go.Ab.Found env 6 [.agg s.cells, .agg r.cells] := by
  refine found_of_wp at6 rfl (by simp [Tryd.f6]) (by simp [Tryd.f6]) (G_start ?_)
  have hV := call_of hk21 (vast_call s.name s.pub s.many s.cv s.cs hg.1 hg.okC hg.2.2.2) (ev env)
  have hV2 := call_of hk21 (vast_call r.name r.pub r.many r.cv r.cs hr.1 hr.okC hr.2.2.2) (ev env)
  have hA := call_of hk20 awake_call (ev env)
  obtain ⟨nm, pb, many, cv, cs⟩ := s
  obtain ⟨nm2, pb2, many2, dv, ds⟩ := r
  simp only [Sch.cells] at hV hV2 ⊢
  by_cases hv : Vast cs
  · simp only [hv, decide_true] at hV
    simp -implicitDefEqProofs only [Tryd.f6,Wa,Wb,Wc,Wd,We,Wf,Wg,Wh,Wi,Wj,Wk,Wl,Wm,Wn,Zo,Zp,evalT,Nat.reduceLT,Nat.reduceEqDiff,if_true,if_false,reduceIte,Ys,ofVal,ofCell,argT,resT,setT,Y0,Int.reduceEq,Int.reduceLT,Int.reduceLE,Int.reduceNeg,mb,Nat.reduceBEq,tys,stb,tys2,empty_mk,YW,agg29,load4_00,hV,hA]
    simp [oneOr]
  simp only [hv, decide_false] at hV
  by_cases hv2 : Vast ds
  · simp only [hv2, decide_true] at hV2
    simp -implicitDefEqProofs only [Tryd.f6,Wa,Wb,Wc,Wd,We,Wf,Wg,Wh,Wi,Wj,Wk,Wl,Wm,Wn,Zo,Zp,evalT,Nat.reduceLT,Nat.reduceEqDiff,if_true,if_false,reduceIte,Ys,ofVal,ofCell,argT,resT,setT,Y0,Int.reduceEq,Int.reduceLT,Int.reduceLE,Int.reduceNeg,mb,Nat.reduceBEq,tys,stb,tys2,empty_mk,YW,agg29,load4_00,load4_1,hV,hV2,hA]
    simp [oneOr]
  simp only [hv2, decide_false] at hV2
  have ok := hg.okC
  have ok2 := hr.okC
  have hc : IsC cv cs := hg.1
  have hd : IsC dv ds := hr.1
  have h2 : ¬ 100 < cs.length := fun q => hv (.inr q)
  have h3 : ∀ i, i < cs.length → (cs.getD i Col.none).ws.length ≤ 100 := fun i hi => by
    have h3 : ¬ 100 < (cs.getD i Col.none).ws.length := fun q => hv (.inl ⟨i, hi, q⟩)
    omega
  have h4 : ∀ i, i < cs.length → (cs.getD i Col.none).ws.length ≤ 1000 := fun i hi => by have := h3 i hi; omega
  have S1 := call_of hk25 (refsame_call nm nm pb pb many many cv (copyV cs) cs (cs.map copyC) hc (isC_copy cs) ok (okC_copy cs) (by omega) h4) (ev env)
  have S2 := call_of hk25 (refsame_call nm nm2 pb pb2 many many2 cv dv cs ds hc hd ok ok2 (by omega) h4) (ev env)
  have S3 := same_call nm nm pb pb many many cv (copyV cs) cs (cs.map copyC) hc (isC_copy cs) ok (okC_copy cs) (by omega) h4
  have S4 := same_call nm nm2 pb pb2 many many2 cv dv cs ds hc hd ok ok2 (by omega) h4
  rw [decide_eq_true ⟨rfl, rfl, rfl, same_copy cs⟩] at S1 S3
  have hxs := copy_call nm pb many cv cs hc ok (by omega) h4 [oS nm pb many cv, oS nm2 pb2 many2 dv, oS nm pb many (copyX 4 nm pb many cv cs).1, oS nm pb many (copyV cs)] []
  obtain ⟨_, _, _, _, _, hx⟩ := hxs
  have e4 : [oS nm pb many cv, oS nm2 pb2 many2 dv, oS nm pb many (copyX 4 nm pb many cv cs).1, oS nm pb many (copyV cs)].length = 4 := rfl
  rw [e4] at hx
  simp -implicitDefEqProofs only [Tryd.f6,Wa,Wb,Wc,Wd,We,Wf,Wg,Wh,Wi,Wj,Wk,Wl,Wm,Wn,Zo,Zp,evalT,Nat.reduceLT,Nat.reduceEqDiff,if_true,if_false,reduceIte,Ys,ofVal,ofCell,argT,resT,setT,Y0,Int.reduceEq,Int.reduceLT,Int.reduceLE,Int.reduceNeg,mb,Nat.reduceBEq,tys,stb,tys2,empty_mk,YW,agg29,load4_00,load4_1,hV,hV2]
  refine region3 hc ok (by omega) h3 rfl fun T' t2 t3 t5 t6 => ?_
  have t2 : T' 2 = .ptr 0 0 := t2
  have t3 : T' 3 = .ptr 1 0 := t3
  simp -implicitDefEqProofs only [Wa,Wb,Wc,Wd,We,Wf,Wg,Wh,Wi,Wj,Wk,Wl,Wm,Wn,Zo,Zp,evalT,Nat.reduceLT,Nat.reduceEqDiff,if_true,if_false,reduceIte,Ys,ofVal,ofCell,argT,resT,setT,Y0,Int.reduceEq,Int.reduceLT,Int.reduceLE,Int.reduceNeg,mb,Nat.reduceBEq,tys,stb]
  refine turn_loop (x := (copyX 4 nm pb many cv cs).1) (by omega) t2 t3 t5 t6 rfl ⟨rfl, rfl, rfl, rfl⟩ hx fun T2 M u2 u3 u6 hL => ?_
  have m0 : loadCellsV M 4 (.ptr 0 0) = some [.str nm, .bool pb, .int .i64 many, cv] := load4_ptr hL.1
  have m1 : loadCellsV M 4 (.ptr 1 0) = some [.str nm2, .bool pb2, .int .i64 many2, dv] := load4_ptr hL.2.1
  have m3 : loadCellsV M 4 (.ptr 3 0) = some [.str nm, .bool pb, .int .i64 many, copyV cs] := load4_ptr hL.2.2.2
  generalize decide (nm = nm2 ∧ pb = pb2 ∧ many = many2 ∧ SameL cs ds) = q at *
  cases q <;> (simp -implicitDefEqProofs only [Wa,Wb,Wc,Wd,We,Wf,Wg,Wh,Wi,Wj,Wk,Wl,Wm,Wn,Zo,Zp,evalT,Nat.reduceLT,Nat.reduceEqDiff,if_true,if_false,reduceIte,Ys,ofVal,ofCell,argT,resT,setT,Y0,Int.reduceEq,Int.reduceLT,Int.reduceLE,Int.reduceNeg,mb,Nat.reduceBEq,tys,stb,tys2,agg29,u2,u3,u6,m0,m1,m3,S1,S2,S3,S4,hA]; first | exact ⟨by kernel_rfl,by simp [oneOr]⟩ | simp [oneOr])
theorem copies_foundt {u w : List V} (h : Tyd Tryd.prog 8 29 u) (h2 : Tyd Tryd.prog 8 29 w) : Go.Ab.Found env 6 [.agg u, .agg w] := by
  obtain ⟨s, rfl⟩ := tyd_S (k := 3) h
  obtain ⟨r, rfl⟩ := tyd_S (k := 3) h2
  exact copies_found s.1 r.1 s.2 r.2
end Go.Proofs.YtbikmhpobflfeaaDoor.C
