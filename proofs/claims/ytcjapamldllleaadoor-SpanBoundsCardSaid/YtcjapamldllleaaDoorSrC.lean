/- Proved here: the reference's run, and the law of spans. Conditions: those of each theorem; no statement of the seat is proved in this text. -/
import Derived.Test.YtcjapamldllleaaDoorSrB
namespace Go.Proofs.YtcjapamldllleaaDoor
open Go.Ab
set_option maxHeartbeats 4000000
set_option maxHeartbeats 4000000
set_option maxRecDepth 100000
set_option linter.unusedSimpArgs false
set_option linter.unusedVariables false
theorem at14 : env.P.funcs[14]? = some Tryd.f14 := by kernel_rfl
theorem at16 : env.P.funcs[16]? = some Tryd.f16 := by kernel_rfl
theorem mkI71 {m : Bool} {T : Tm} {σ : S} (x : Operand) : opT env m T σ (.makeInterface 71 x) = (evalT env T x).map fun v => (.iface 71 v, σ) := opT_mkI 71 x u71 (by intros; simp)
def spanV (l : List Nd) (cs : List Col) : Iv := at0 (runI l cs l.length 0 []) 0
section
variable {v : V} {l : List Nd} {cv : V} {cs : List Col}
open Classical in
theorem of_call (F : Fine v l cv cs) (σ : S) : callFn env (ev env) 14 [v, cv] σ = some (.tup (if Acc l cs false then [.int .i64 (spanV l cs).1, .int .i64 (spanV l cs).2] else [.int .i64 0, .int .i64 0]), σ) := by
  refine callFn_pure rfl rfl (by simp [V.closed, V.closed.closedL, closed_C F.hc F.ok, closed_N F.hv]) at14 rfl (by simp [Tryd.f14]) (by simp [Tryd.f14]) (G_start ?_) σ
  have hA := accepted_call v l F.hv (Nat.le_trans F.hl (by omega)) cv cs F.hc F.ok F.hcl F.hs false
  by_cases h1 : Acc l cs false
  · rw [decide_eq_true h1] at hA
    rw [if_pos h1]
    have hR : ∀ σ, callFn env (ev env) 39 [v, cv, .iface 71 cv] σ = some (.agg [.int .i64 (spanV l cs).1, .int .i64 (spanV l cs).2], σ) := runI_call v l F.hv F.hl cv cs F.hc F.ok F.hcl F.hw (bounds_of h1.2 F.hs) false h1.1
    simp -implicitDefEqProofs only [Tryd.f14,Wa,Wb,Wc,Wd,We,Wf,Wg,Wh,Wi,Wj,Wk,Wl,Wm,Wn,Zo,Zp,evalT,Nat.reduceLT,Nat.reduceEqDiff,if_true,if_false,reduceIte,Ys,ofVal,ofCell,argT,resT,setT,Y0,Int.reduceEq,Int.reduceLT,Int.reduceLE,Int.reduceNeg,mb,Nat.reduceBEq,tys,stb,Va,storeList,Nat.reduceAdd,Nat.reduceLeDiff,tysn,tyi,empty_mk,ix0,ix1,hA,hR,mkI71,YW,isCell_int]
    exact ⟨by kernel_rfl, rfl⟩
  · rw [decide_eq_false h1] at hA
    rw [if_neg h1]
    simp -implicitDefEqProofs only [Tryd.f14,Wa,Wb,Wc,Wd,We,Wf,Wg,Wh,Wi,Wj,Wk,Wl,Wm,Wn,Zo,Zp,evalT,Nat.reduceLT,Nat.reduceEqDiff,if_true,if_false,reduceIte,Ys,ofVal,ofCell,argT,resT,setT,Y0,Int.reduceEq,Int.reduceLT,Int.reduceLE,Int.reduceNeg,mb,Nat.reduceBEq,tys,stb,Va,storeList,Nat.reduceAdd,Nat.reduceLeDiff,tysn,tyi,empty_mk,hA]
    rfl
open Classical in
theorem can_call (F : Fine v l cv cs) (σ : S) : callFn env (ev env) 16 [v, cv] σ = some (.tup (if Acc l cs true then [.bool (decide ((spanV l cs).2 = 1)), .bool (decide ((spanV l cs).1 = 0))] else [.bool false, .bool false]), σ) := by
  refine callFn_pure rfl rfl (by simp [V.closed, V.closed.closedL, closed_C F.hc F.ok, closed_N F.hv]) at16 rfl (by simp [Tryd.f16]) (by simp [Tryd.f16]) (G_start ?_) σ
  have hA := accepted_call v l F.hv (Nat.le_trans F.hl (by omega)) cv cs F.hc F.ok F.hcl F.hs true
  by_cases h1 : Acc l cs true
  · rw [decide_eq_true h1] at hA
    rw [if_pos h1]
    have hR : ∀ σ, callFn env (ev env) 39 [v, cv, .iface 71 cv] σ = some (.agg [.int .i64 (spanV l cs).1, .int .i64 (spanV l cs).2], σ) := runI_call v l F.hv F.hl cv cs F.hc F.ok F.hcl F.hw (bounds_of h1.2 F.hs) true h1.1
    simp -implicitDefEqProofs only [Tryd.f16,Wa,Wb,Wc,Wd,We,Wf,Wg,Wh,Wi,Wj,Wk,Wl,Wm,Wn,Zo,Zp,evalT,Nat.reduceLT,Nat.reduceEqDiff,if_true,if_false,reduceIte,Ys,ofVal,ofCell,argT,resT,setT,Y0,Int.reduceEq,Int.reduceLT,Int.reduceLE,Int.reduceNeg,mb,Nat.reduceBEq,tys,stb,Va,storeList,Nat.reduceAdd,Nat.reduceLeDiff,tysn,tyi,empty_mk,ix0,ix1,hA,hR,mkI71,YW,isCell_int]
    refine ⟨by kernel_rfl, ?_⟩
    simp [oneOr, sealDepth, sealV_tup, mapM_seal_cons, mapM_seal_nil, sealV_bool]
  · rw [decide_eq_false h1] at hA
    rw [if_neg h1]
    simp -implicitDefEqProofs only [Tryd.f16,Wa,Wb,Wc,Wd,We,Wf,Wg,Wh,Wi,Wj,Wk,Wl,Wm,Wn,Zo,Zp,evalT,Nat.reduceLT,Nat.reduceEqDiff,if_true,if_false,reduceIte,Ys,ofVal,ofCell,argT,resT,setT,Y0,Int.reduceEq,Int.reduceLT,Int.reduceLE,Int.reduceNeg,mb,Nat.reduceBEq,tys,stb,Va,storeList,Nat.reduceAdd,Nat.reduceLeDiff,tysn,tyi,empty_mk,hA]
    rfl
end
end Go.Proofs.YtcjapamldllleaaDoor
namespace Go.Proofs.YtcjapamldllleaaDoor
open Go.Ab
set_option maxHeartbeats 4000000
set_option maxHeartbeats 4000000
set_option maxRecDepth 100000
set_option linter.unusedSimpArgs false
set_option linter.unusedVariables false
theorem at82 : env.P.funcs[82]? = some Tryd.f82 := by kernel_rfl
open Classical in
theorem valueW_call (c : Col) (h : IsW c.w c.ws) (hs : Short c) (hok : OkCol c) (s : List UInt8) (h20 : s.length ≤ 20) (hm : s ∈ c.ws) (σ : S) : callFn env (ev env) 82 [aggC c, .str s] σ = some (.tup [.int .i64 (placeW c.ws s c.ws.length 0), .bool true], σ) := by
  have hV := validr_call c h hs
  rw [decide_eq_true hok] at hV
  have hWr := W_row h hm
  obtain ⟨p, p1, _, p2, p3, p4⟩ := place_first c.ws s c.ws.length 0 ((place_mem _ _).2 hm)
  rw [p1]
  unfold aggC at hV ⊢
  rw [hWr] at hV ⊢
  have hl := hs.2.1
  refine callFn_pure rfl rfl (by simp [V.closed, V.closed.closedL, closed_strs]) at82 rfl (by simp [Tryd.f82]) (by simp [Tryd.f82]) (G_start ?_) σ
  have c20 : ¬ (20 : Int) < (s.length : Int) := by omega
  have l4 : loadCellsV [AObj.cells [V.str c.name, V.int .i64 c.lo, V.int .i64 c.hi, V.row (c.ws.map V.str) c.ws.length .unk] 46] 4 (.ptr 0 0) = some [V.str c.name, V.int .i64 c.lo, V.int .i64 c.hi, V.row (c.ws.map V.str) c.ws.length .unk] := rfl
  have hls : vLenT (some TypeDesc.string) (.str s) = some (.int .i64 s.length) := rfl
  simp -implicitDefEqProofs only [hls,Tryd.f82,Wa,Wb,Wc,Wd,We,Wf,Wg,Wh,Wi,Wj,Wk,Wl,Wm,Wn,Zo,Zp,evalT,Nat.reduceLT,Nat.reduceEqDiff,if_true,if_false,reduceIte,Ys,ofVal,ofCell,argT,resT,setT,Y0,Int.reduceEq,Int.reduceLT,Int.reduceLE,Int.reduceNeg,mb,Nat.reduceBEq,tys,stb,Va,storeList,Nat.reduceAdd,Nat.reduceLeDiff,tysn,tys2,agg44,empty_mk,YW,l4,hV,c20]
  refine loop_rule (fun m T D σ => D = [] ∧ σ = ⟨[AObj.cells [V.str c.name, V.int .i64 c.lo, V.int .i64 c.hi, V.row (c.ws.map V.str) c.ws.length .unk] 46], []⟩ ∧ T 2 = .ptr 0 0 ∧ T 1 = .str s ∧ ∃ k : Nat, T 6 = .int .i64 k ∧ k ≤ p ∧ m = p - k) ?_ (p - 0) _ _ _ ⟨rfl, rfl, rfl, rfl, 0, rfl, by omega, rfl⟩
  rintro m T D σ ⟨rfl, rfl, u2, u1, k, u6, hk, rfl⟩
  refine G_start ?_
  have hxk : vIndexAddr 1 (.row (c.ws.map V.str) c.ws.length .unk) (.int .i64 k) = some (.rptr (.str (c.ws.getD k []) :: (c.ws.map V.str).drop (k + 1))) := by
    rw [Ys, if_pos (by omega), Int.toNat_natCast, Nat.mul_one, List.drop_eq_getElem_cons (by simp; omega)]
    simp [List.getD, show k < c.ws.length by omega]
  have e2 : IntKind.i64.wrap ((k : Int) + 1) = ((k + 1 : Nat) : Int) := by rw [wrap_i64 (by omega) (by omega)]; omega
  have c1 : (k : Int) < (c.ws.length : Int) := by omega
  by_cases hkk : k = p
  · subst hkk
    have gn : ((c.ws.getD k [] : List UInt8) = s) = True := eq_true p3
    simp -implicitDefEqProofs only [Wa,Wb,Wc,Wd,We,Wf,Wg,Wh,Wi,Wj,Wk,Wl,Wm,Wn,Zo,Zp,evalT,Nat.reduceLT,Nat.reduceEqDiff,if_true,if_false,reduceIte,Ys,ofVal,ofCell,argT,resT,setT,Y0,Int.reduceEq,Int.reduceLT,Int.reduceLE,Int.reduceNeg,mb,Nat.reduceBEq,tys,stb,Va,storeList,Nat.reduceAdd,Nat.reduceLeDiff,tysn,tys2,u1,u2,u6,-Ys,hxk,load_hd,c1,vBin_seql,gn]
    first | rfl | simp [oneOr, sealDepth, sealV_tup, mapM_seal_cons, mapM_seal_nil, sealV_bool, sealV_int]
  · have gn : ((c.ws.getD k [] : List UInt8) = s) = False := eq_false (p4 k (by omega) (by omega))
    simp -implicitDefEqProofs only [Wa,Wb,Wc,Wd,We,Wf,Wg,Wh,Wi,Wj,Wk,Wl,Wm,Wn,Zo,Zp,evalT,Nat.reduceLT,Nat.reduceEqDiff,if_true,if_false,reduceIte,Ys,ofVal,ofCell,argT,resT,setT,Y0,Int.reduceEq,Int.reduceLT,Int.reduceLE,Int.reduceNeg,mb,Nat.reduceBEq,tys,stb,Va,storeList,Nat.reduceAdd,Nat.reduceLeDiff,tysn,tys2,u1,u2,u6,-Ys,hxk,load_hd,c1,e2,vBin_seql,gn]
    exact ⟨p - (k + 1), by omega, k + 1, rfl, by omega, rfl⟩
end Go.Proofs.YtcjapamldllleaaDoor
namespace Go.Proofs.YtcjapamldllleaaDoor
open Go.Ab
set_option maxHeartbeats 4000000
set_option maxHeartbeats 4000000
set_option maxRecDepth 100000
set_option linter.unusedSimpArgs false
set_option linter.unusedVariables false
theorem at61 : env.P.funcs[61]? = some Tryd.f61 := by kernel_rfl
theorem leaf1_call (v : V) (l : List Nd) (hv : IsN v l) (i : Nat) (hi : i < l.length) (cv : V) (cs : List Col) (hc : IsC cv cs) (ok : OkC cs) (h1 : (gN l i).op = 1) (σ : S) :
    callFn env (ev env) 61 [v, .int .i64 i, cv] σ = some ((numR (gN l i).n (gN l i).n).v, σ) := by
  refine callFn_pure rfl rfl (by simp [V.closed, V.closed.closedL, closed_C hc ok, closed_N hv]) at61 rfl (by simp [Tryd.f61]) (by simp [Tryd.f61]) (G_start ?_) σ
  have hx := idx_N hv hi
  change vIndexAddr 3 v (.int .i64 i) = some (.rptr (.int .i64 (gN l i).op :: .int .i64 (gN l i).n :: .str (gN l i).col :: _)) at hx
  have hobj : (AObj.cells [V.int IntKind.i64 (gN l i).op, V.int IntKind.i64 (gN l i).n, V.str (gN l i).col] 52) = objN (gN l i) := rfl
  have g1 : (((gN l i).op : Int) = 1) = True := eq_true h1
  simp -implicitDefEqProofs only [Tryd.f61,Wa,Wb,Wc,Wd,We,Wf,Wg,Wh,Wi,Wj,Wk,Wl,Wm,Wn,Zo,Zp,evalT,Nat.reduceLT,Nat.reduceEqDiff,if_true,if_false,reduceIte,Ys,ofVal,ofCell,argT,resT,setT,Y0,Int.reduceEq,Int.reduceLT,Int.reduceLE,Int.reduceNeg,mb,Nat.reduceBEq,tys,stb,Va,storeList,Nat.reduceAdd,Nat.reduceLeDiff,tysn,tyr,empty_mk,hx,load3_rptr,YW,isCell_int,isCell_str,isCell_bool,hobj,ld_op,ld_n,ld_col,g1,build73n]
  first | exact V1i rfl rfl | exact ⟨rfl, V1i rfl rfl⟩
theorem leaf2_call (v : V) (l : List Nd) (hv : IsN v l) (i : Nat) (hi : i < l.length) (cv : V) (cs : List Col) (hc : IsC cv cs) (ok : OkC cs) (hcl : cs.length ≤ 1000) (h2 : (gN l i).op = 2) (hk : 0 ≤ seekK cs (gN l i).col) (σ : S) :
    callFn env (ev env) 61 [v, .int .i64 i, cv] σ = some ((numR (colN cs (gN l i).col).lo (colN cs (gN l i).col).hi).v, σ) := by
  refine callFn_pure rfl rfl (by simp [V.closed, V.closed.closedL, closed_C hc ok, closed_N hv]) at61 rfl (by simp [Tryd.f61]) (by simp [Tryd.f61]) (G_start ?_) σ
  have hx := idx_N hv hi
  change vIndexAddr 3 v (.int .i64 i) = some (.rptr (.int .i64 (gN l i).op :: .int .i64 (gN l i).n :: .str (gN l i).col :: _)) at hx
  have hobj : (AObj.cells [V.int IntKind.i64 (gN l i).op, V.int IntKind.i64 (gN l i).n, V.str (gN l i).col] 52) = objN (gN l i) := rfl
  have g1 : (((gN l i).op : Int) = 1) = False := eq_false (by omega)
  have g2 : (((gN l i).op : Int) = 2) = True := eq_true h2
  obtain ⟨j, k1, k2, k3⟩ := colN_at hk
  have hF := findr_call cv cs hc ok hcl (gN l i).col
  rw [k1] at hF
  unfold foundV at hF
  rw [if_pos (by omega), decide_eq_true (by omega)] at hF
  have hxk := idx_C hc k2
  rw [← k3] at hxk
  simp -implicitDefEqProofs only [Tryd.f61,Wa,Wb,Wc,Wd,We,Wf,Wg,Wh,Wi,Wj,Wk,Wl,Wm,Wn,Zo,Zp,evalT,Nat.reduceLT,Nat.reduceEqDiff,if_true,if_false,reduceIte,Ys,ofVal,ofCell,argT,resT,setT,Y0,Int.reduceEq,Int.reduceLT,Int.reduceLE,Int.reduceNeg,mb,Nat.reduceBEq,tys,stb,Va,storeList,Nat.reduceAdd,Nat.reduceLeDiff,tysn,tys2,tyr,empty_mk,hx,load3_rptr,load_hd,YW,isCell_int,isCell_str,isCell_bool,hobj,ld_op,ld_n,ld_col,g1,g2,hF,hxk,build73n]
  exact ⟨by kernel_rfl, V1i rfl rfl⟩
theorem leaf3_call (v : V) (l : List Nd) (hv : IsN v l) (hl : l.length ≤ 1000) (i : Nat) (hi : i < l.length) (cv : V) (cs : List Col) (hc : IsC cv cs) (ok : OkC cs) (hcl : cs.length ≤ 1000) (hs : ∀ i, i < cs.length → Short (cs.getD i Col.none)) (hP : Proper cs) (h3 : (gN l i).op = 3) (h0 : 1 ≤ i) (hm : (gN l i).col ∈ (colN cs (gN l (i - 1)).col).ws) (h20 : (gN l i).col.length ≤ 20) (σ : S) :
    callFn env (ev env) 61 [v, .int .i64 i, cv] σ = some ((numR (wordV l i cs) (wordV l i cs)).v, σ) := by
  refine callFn_pure rfl rfl (by simp [V.closed, V.closed.closedL, closed_C hc ok, closed_N hv]) at61 rfl (by simp [Tryd.f61]) (by simp [Tryd.f61]) (G_start ?_) σ
  have hx := idx_N hv hi
  change vIndexAddr 3 v (.int .i64 i) = some (.rptr (.int .i64 (gN l i).op :: .int .i64 (gN l i).n :: .str (gN l i).col :: _)) at hx
  have hxp := idx_N hv (show i - 1 < l.length by omega)
  change vIndexAddr 3 v (.int .i64 ((i - 1 : Nat) : Int)) = some (.rptr (.int .i64 (gN l (i - 1)).op :: .int .i64 (gN l (i - 1)).n :: .str (gN l (i - 1)).col :: _)) at hxp
  have hobj : (AObj.cells [V.int IntKind.i64 (gN l i).op, V.int IntKind.i64 (gN l i).n, V.str (gN l i).col] 52) = objN (gN l i) := rfl
  have g1 : (((gN l i).op : Int) = 1) = False := eq_false (by omega)
  have g2 : (((gN l i).op : Int) = 2) = False := eq_false (by omega)
  have e0 : IntKind.i64.wrap ((i : Int) - 1) = ((i - 1 : Nat) : Int) := by rw [wrap_i64 (by omega) (by omega)]; omega
  have hk0 : 0 ≤ seekK cs (gN l (i - 1)).col := Classical.byContradiction fun h => by unfold colN at hm; rw [if_neg h] at hm; simp [Col.none] at hm
  obtain ⟨j, k1, k2, k3⟩ := colN_at hk0
  have hF := findr_call cv cs hc ok hcl (gN l (i - 1)).col
  rw [k1] at hF
  unfold foundV at hF
  rw [if_pos (by omega), decide_eq_true (by omega)] at hF
  have hxk := idx_C hc k2
  have hcW := ok.at k2
  have hV := valueW_call (cs.getD j Col.none) hcW (hs j k2) (hP j k2) (gN l i).col h20 (by rw [← k3]; exact hm)
  unfold aggC at hV
  rw [← k3] at hV hxk
  change ∀ σ, _ = some (V.tup [.int .i64 (wordV l i cs), .bool true], σ) at hV
  simp -implicitDefEqProofs only [Tryd.f61,Wa,Wb,Wc,Wd,We,Wf,Wg,Wh,Wi,Wj,Wk,Wl,Wm,Wn,Zo,Zp,evalT,Nat.reduceLT,Nat.reduceEqDiff,if_true,if_false,reduceIte,Ys,ofVal,ofCell,argT,resT,setT,Y0,Int.reduceEq,Int.reduceLT,Int.reduceLE,Int.reduceNeg,mb,Nat.reduceBEq,tys,stb,Va,storeList,Nat.reduceAdd,Nat.reduceLeDiff,tysn,tys2,tyr,agg44,load4_rptr,empty_mk,hx,hxp,e0,load3_rptr,load_hd,YW,isCell_int,isCell_str,isCell_bool,hobj,ld_op,ld_n,ld_col,g1,g2,hF,hxk,hV,build73n]
  exact ⟨by kernel_rfl, V1i rfl rfl⟩
end Go.Proofs.YtcjapamldllleaaDoor
namespace Go.Proofs.YtcjapamldllleaaDoor
open Go.Ab
set_option maxHeartbeats 4000000
set_option maxHeartbeats 4000000
set_option maxRecDepth 100000
set_option linter.unusedSimpArgs false
set_option linter.unusedVariables false
theorem at40 : env.P.funcs[40]? = some Tryd.f40 := by kernel_rfl
theorem u96 : env.P.underlying 96 = some (.slice 73) := by kernel_rfl
theorem e96 : elemS env 96 = some 73 := by kernel_rfl
theorem zn73 : zeroN env 73 = some 4 := by kernel_rfl
theorem by73 : bys env 73 = some 24 := by kernel_rfl
theorem sz73 : sz env 73 = some 4 := by kernel_rfl
theorem mb40 (r : Nat) : env.mutb 40 r = true := rfl
def rss : List Rs → List V
  | [] => []
  | s :: l => V.int .i64 s.lo :: V.int .i64 s.hi :: V.bool s.yes :: V.bool s.no :: rss l
theorem rss_len : ∀ l : List Rs, (rss l).length = l.length * 4
  | [] => rfl
  | p :: l => by simp only [rss, List.length_cons, rss_len l]; omega
theorem rss_app : ∀ a b : List Rs, rss (a ++ b) = rss a ++ rss b
  | [], b => rfl
  | p :: a, b => by rw [List.cons_append]; simp only [rss, rss_app a b]; rfl
theorem rss_drop : ∀ (l : List Rs) (k : Nat), (rss l).drop (k * 4) = rss (l.drop k)
  | l, 0 => by simp
  | [], k + 1 => by simp [rss]
  | p :: l, k + 1 => by
    rw [show (k + 1) * 4 = k * 4 + 1 + 1 + 1 + 1 by omega]
    simp only [rss, List.drop_succ_cons]
    exact rss_drop l k
theorem rss_take : ∀ (l : List Rs) (k : Nat), (rss l).take (k * 4) = rss (l.take k)
  | l, 0 => by simp [rss]
  | [], k + 1 => by simp [rss]
  | p :: l, k + 1 => by
    rw [show (k + 1) * 4 = k * 4 + 1 + 1 + 1 + 1 by omega]
    simp only [rss, List.take_succ_cons, rss_take l k]
theorem rss_at {l : List Rs} {i : Nat} (h : i < l.length) : ((rss l).drop (i * 4)).take 4 = [V.int .i64 (l.getD i Rs.none).lo, V.int .i64 (l.getD i Rs.none).hi, V.bool (l.getD i Rs.none).yes, V.bool (l.getD i Rs.none).no] := by
  rw [rss_drop, List.drop_eq_getElem_cons h]
  simp only [rss, List.take_succ_cons, List.take_zero]
  simp [List.getD, h]
theorem build_r {T : Tm} (L : List AObj) (ts : List Nat) (x : Operand) : opT env true T ⟨L, ts⟩ (.buildSlice 96 1 #[(0, x)]) = (evalT env T x).bind fun v => if v.cells.length = 4 then some (.hsl L.length 0 1 1 .exact, ⟨L ++ [.cells v.cells 73], ts⟩) else none := by
  obtain ⟨z, hz, hl⟩ : ∃ z, zeroV env 73 = some z ∧ z.cells.length = 4 := ⟨_, tyr.2.2.2.2.2.1, rfl⟩
  unfold opT
  simp only [apure, aread, astate, partsO]
  cases evalT env T x with
  | none => rfl
  | some v =>
    simp only [Option.map_some, Option.bind_some, e96, sz73, hz]
    by_cases hv : v.cells.length = 4
    · have : z.cells.drop 4 = [] := List.drop_of_length_le (by omega)
      simp [vFill, hl, hv, this, S.push, env]
    · simp [vFill, hv]
abbrev SR (L : List AObj) (sv : V) (vs : List Rs) : Prop := StkV L 73 4 sv vs.length (rss vs)
theorem SR.more {L : List AObj} {sv : V} {vs : List Rs} (h : SR L sv vs) (X : List AObj) : SR (L ++ X) sv vs := h.move fun b hb => by rw [List.getElem?_append_left (h.lt hb)]
theorem SR.push {L : List AObj} {sv : V} {vs : List Rs} (h : SR L sv vs) (ts : List Nat) (p : Rs) (hl : vs.length ≤ 4000) :
    ∃ v' L', appO env true ⟨L ++ [.cells [.int .i64 p.lo, .int .i64 p.hi, .bool p.yes, .bool p.no] 73], ts⟩ 96 96 sv (.hsl L.length 0 1 1 .exact) = some (v', ⟨L', ts⟩) ∧ SR L' v' (vs ++ [p]) ∧ (∀ q, q < L.length → blkOf sv ≠ some q → L'[q]? = L[q]?) ∧ (blkOf v' = blkOf sv ∨ blkOf v' = some (L.length + 1)) := by
  have hlim : lim = 2 ^ 40 := rfl
  have hc : vCells (L ++ [AObj.cells [V.int .i64 p.lo, V.int .i64 p.hi, V.bool p.yes, V.bool p.no] 73]) 4 1 (.hsl L.length 0 1 1 .exact) = some [.int .i64 p.lo, .int .i64 p.hi, .bool p.yes, .bool p.no] := by simp [vCells]
  obtain ⟨v', L', ha, hs, hk, hlen, hbk⟩ := StkV.push (E := env) (ts := ts) (ty := 96) (ty2 := 96) (y := .hsl L.length 0 1 1 .exact) (h.more [AObj.cells [V.int .i64 p.lo, V.int .i64 p.hi, V.bool p.yes, V.bool p.no] 73]) e96 sz73 zn73 by73 ⟨73, u96⟩ (by omega) ⟨by rw [hlim]; omega, by rw [hlim]; omega⟩ rfl hc rfl rfl
  refine ⟨v', L', ha, ?_, fun q hq hb => by rw [hk q (by simp; omega) hb, List.getElem?_append_left hq], by simpa using hbk⟩
  unfold SR
  rw [List.length_append, rss_app]; exact hs
theorem SR.at {L : List AObj} {sv : V} {vs : List Rs} (h : SR L sv vs) {i : Nat} (hi : i < vs.length) : ∃ b o, vIndexAddr 4 sv (.int .i64 i) = some (.ptr b o) ∧ blkOf sv = some b ∧
    loadCellsV L 4 (.ptr b o) = some [V.int .i64 (vs.getD i Rs.none).lo, V.int .i64 (vs.getD i Rs.none).hi, V.bool (vs.getD i Rs.none).yes, V.bool (vs.getD i Rs.none).no] ∧
    loadCellsV L 1 (.ptr b o) = some [V.int .i64 (vs.getD i Rs.none).lo] ∧ loadCellsV L 1 (.ptr b (o + 1)) = some [V.int .i64 (vs.getD i Rs.none).hi] ∧ loadCellsV L 1 (.ptr b (o + 2)) = some [V.bool (vs.getD i Rs.none).yes] ∧ loadCellsV L 1 (.ptr b (o + 3)) = some [V.bool (vs.getD i Rs.none).no] ∧
    ∀ (ts : List Nat) (y : Rs), ∃ L', storeCellsV ⟨L, ts⟩ [.int .i64 y.lo, .int .i64 y.hi, .bool y.yes, .bool y.no] (.ptr b o) = some ⟨L', ts⟩ ∧ SR L' sv (vs.set i y) ∧ ∀ q, q ≠ b → L'[q]? = L[q]? := by
  obtain ⟨hl, ⟨rfl, h0⟩ | ⟨b, cap, cs, rfl, hbk, h1, h2, h3⟩⟩ := h
  · omega
  have hblt := lt_get hbk
  have hx := rss_at hi
  have hc : (cs.drop (i * 4)).take 4 = ((rss vs).drop (i * 4)).take 4 := by
    rw [← h3, List.drop_take, List.take_take, Nat.min_eq_left (by omega)]
  rw [hx] at hc
  have hlen : i * 4 + 4 ≤ cs.length := by omega
  have hget : ∀ k, k < 4 → cs[i * 4 + k]? = [V.int .i64 (vs.getD i Rs.none).lo, V.int .i64 (vs.getD i Rs.none).hi, V.bool (vs.getD i Rs.none).yes, V.bool (vs.getD i Rs.none).no][k]? := fun k hk => by
    rw [← hc, List.getElem?_take_of_lt hk, List.getElem?_drop]
  have hone : ∀ k, k < 4 → loadCellsV L 1 (.ptr b (i * 4 + k)) = ([V.int .i64 (vs.getD i Rs.none).lo, V.int .i64 (vs.getD i Rs.none).hi, V.bool (vs.getD i Rs.none).yes, V.bool (vs.getD i Rs.none).no][k]?).map fun v => [v] := fun k hk => by
    have hlt : i * 4 + k < cs.length := by omega
    rw [← hget k hk]
    simp only [loadCellsV, hbk]
    rw [if_pos (by omega), List.drop_eq_getElem_cons hlt, List.take_succ_cons, List.take_zero, List.getElem?_eq_getElem hlt]
    rfl
  refine ⟨b, i * 4, ?_, rfl, ?_, hone 0 (by omega), hone 1 (by omega), hone 2 (by omega), hone 3 (by omega), fun ts y => ?_⟩
  · have : (i : Int) < (vs.length : Int) := by omega
    simp [vIndexAddr, hi]
  · simp only [loadCellsV, hbk]
    rw [if_pos (by omega), hc]
  · refine ⟨L.set b (.cells (storeList cs (i * 4) [.int .i64 y.lo, .int .i64 y.hi, .bool y.yes, .bool y.no]) 73), ?_, ?_, fun q hq => by rw [List.getElem?_set_ne (Ne.symm hq)]⟩
    · simp only [storeCellsV, hbk]
      rw [if_pos ⟨by simp; omega, rfl⟩]
      rfl
    · have hsl : (storeList cs (i * 4) [.int .i64 y.lo, .int .i64 y.hi, .bool y.yes, .bool y.no]).length = cs.length := by
        simp only [storeList, List.length_append, List.length_take, List.length_drop, List.length_cons, List.length_nil]; omega
      unfold SR
      rw [List.length_set]
      refine ⟨by rw [rss_len, List.length_set], .inr ⟨b, cap, _, rfl, by rw [List.getElem?_set_self hblt], h1, by rw [hsl]; exact h2, ?_⟩⟩
      rw [List.set_eq_take_append_cons_drop, if_pos hi, rss_app, ← rss_take, ← h3]
      simp only [rss, ← rss_drop]
      rw [← h3, storeList, List.take_take, Nat.min_eq_left (by omega)]
      rw [List.append_assoc, List.take_append, List.take_of_length_le (by rw [List.length_take]; omega)]
      congr 1
      have e : vs.length * 4 - (cs.take (i * 4)).length = (vs.length * 4 - i * 4 - 4) + 1 + 1 + 1 + 1 := by rw [List.length_take]; omega
      rw [e]
      simp only [List.cons_append, List.nil_append, List.take_succ_cons, List.length_cons, List.length_nil]
      rw [List.drop_take, show (i + 1) * 4 = i * 4 + (0 + 1 + 1 + 1 + 1) by omega, show vs.length * 4 - (i * 4 + (0 + 1 + 1 + 1 + 1)) = vs.length * 4 - i * 4 - 4 by omega]
theorem setr_last {vs : List Rs} {n : Nat} (h : vs.length = n + 1) (y : Rs) : vs.set n y = vs.take n ++ [y] := by
  rw [List.set_eq_take_append_cons_drop, if_pos (by omega), List.drop_of_length_le (by omega)]
theorem SR.cut {L : List AObj} {sv : V} {vs : List Rs} (h : SR L sv vs) (k : Nat) (hk : k ≤ vs.length) : ∃ v', sliceO env 96 sv none (some (.int .i64 k)) none = some v' ∧ SR L v' (vs.take k) ∧ blkOf v' = blkOf sv := by
  obtain ⟨v1, hcut, hS2, hb2⟩ := StkV.cut (E := env) h u96 sz73 k hk none (.inl rfl)
  refine ⟨v1, hcut, ?_, hb2⟩
  unfold SR
  rw [List.length_take, Nat.min_eq_left hk, ← rss_take]; exact hS2
theorem getR_drop (vs : List Rs) (m j : Nat) : (vs.drop m).getD j Rs.none = vs.getD (m + j) Rs.none := by simp [List.getD]
end Go.Proofs.YtcjapamldllleaaDoor
namespace Go.Proofs.YtcjapamldllleaaDoor
open Go.Ab
set_option maxHeartbeats 4000000
set_option maxHeartbeats 4000000
set_option maxRecDepth 100000
set_option linter.unusedSimpArgs false
set_option linter.unusedVariables false
theorem twor_call (op : Int) (h : 4 ≤ op ∧ op ≤ 17 ∧ op ≠ 7 ∧ op ≠ 8 ∧ op ≠ 17) (s t u : Rs) (hm : op = 6 → In64 s.lo ∧ In64 s.hi ∧ In64 t.lo ∧ In64 t.hi) (σ : S) : callFn env (ev env) 64 [.int .i64 op, s.v, t.v] σ = some ((opR op s t u).v, σ) := by
  have ho : op = 4 ∨ op = 5 ∨ op = 6 ∨ op = 9 ∨ op = 10 ∨ op = 11 ∨ op = 12 ∨ op = 13 ∨ op = 14 ∨ op = 15 ∨ op = 16 := by omega
  rcases ho with rfl | rfl | rfl | rfl | rfl | rfl | rfl | rfl | rfl | rfl | rfl
  · exact twor4_call s t u σ
  · exact twor5_call s t u σ
  · obtain ⟨a, b, c, d⟩ := hm rfl; exact twor6_call s t u a b c d σ
  · exact twor9_call s t u σ
  · exact twor10_call s t u σ
  · exact twor11_call s t u σ
  · exact twor12_call s t u σ
  · exact twor13_call s t u σ
  · exact twor14_call s t u σ
  · exact twor15_call s t u σ
  · exact twor16_call s t u σ
theorem BI.in64 {x : Int} (h : BI x) : In64 x := by unfold BI at h; unfold In64; omega
theorem mul_ok {st st' : List Int} {vs : List Iv} {ss : List Rs} (hp : popN st (takesN 6).1 = some st') (hr : Rels st vs ss) : In64 (ss.getD (ss.length - 2) Rs.none).lo ∧ In64 (ss.getD (ss.length - 2) Rs.none).hi ∧ In64 (ss.getD (ss.length - 1) Rs.none).lo ∧ In64 (ss.getD (ss.length - 1) Rs.none).hi := by
  have hst := popN_eq hp
  subst hst
  obtain ⟨x, y, u, t, rfl, rfl, w1, w2⟩ := hr.split
  have hl := w2.len
  have h2 : t.length = 2 := by rw [← hl.2]; decide
  have e1 : (u ++ t).getD ((u ++ t).length - 2) Rs.none = t.getD 0 Rs.none := by rw [List.length_append, h2, Nat.add_sub_cancel, List.getD, List.getD, List.getElem?_append_right (Nat.le_refl _), Nat.sub_self]
  have e2 : (u ++ t).getD ((u ++ t).length - 1) Rs.none = t.getD 1 Rs.none := by rw [List.length_append, h2, show u.length + 2 - 1 = u.length + 1 by omega, List.getD, List.getD, List.getElem?_append_right (by omega), Nat.add_sub_cancel_left]
  rw [e1, e2]
  have q0 : Rel 0 (at0 y 0) (t.getD 0 Rs.none) := w2.get 0 (by decide)
  have q1 : Rel 0 (at0 y 1) (t.getD 1 Rs.none) := w2.get 1 (by decide)
  obtain ⟨_, a1, a2, a3, a4⟩ := q0.num
  obtain ⟨_, b1, b2, b3, b4⟩ := q1.num
  exact ⟨a3 ▸ a1.in64, a4 ▸ a2.in64, b3 ▸ b1.in64, b4 ▸ b2.in64⟩
theorem ofr_call (v : V) (l : List Nd) (hv : IsN v l) (hl : l.length ≤ 1000) (cv : V) (cs : List Col) (hc : IsC cv cs) (ok : OkC cs) (hcl : cs.length ≤ 1000) (hw : ∀ nm, (colN cs nm).ws.length ≤ 1000) (hs : ∀ i, i < cs.length → Short (cs.getD i Col.none)) (hP : Proper cs) (hb : ∀ nm, 0 ≤ seekK cs nm → (colN cs nm).lo ≤ (colN cs nm).hi ∧ -1000000 ≤ (colN cs nm).lo ∧ (colN cs nm).hi ≤ 1000000)
    (h20 : ∀ i, i < l.length → (gN l i).op = 3 → (gN l i).col ∈ (colN cs (gN l (i - 1)).col).ws → (gN l i).col.length ≤ 20) (cond : Bool) (hE : exprE l cs cond = 0) (σ : S) :
    callFn env (ev env) 40 [v, cv] σ = some (((runR l cs l.length 0 []).getD 0 Rs.none).v, σ) := by
  have hcc := closed_C hc ok
  refine callFn_pure rfl rfl (by simp [V.closed, V.closed.closedL, hcc, closed_N hv]) at40 rfl (by simp [Tryd.f40]) (by simp [Tryd.f40]) (G_start ?_) σ
  have hR0 := exprE_zero hE
  generalize hR : exprL l cs l.length 0 [] = R at hR0
  obtain ⟨r1, r2, _⟩ := hR0
  generalize hW : runR l cs l.length 0 [] = W
  have hln := len_N hv
  simp -implicitDefEqProofs only [Tryd.f40,Wa,Wb,Wc,Wd,We,Wf,Wg,Wh,Wi,Wj,Wk,Wl,Wm,Wn,Zo,Zp,evalT,Nat.reduceLT,Nat.reduceEqDiff,if_true,if_false,reduceIte,Ys,ofVal,ofCell,argT,resT,setT,Y0,Int.reduceEq,Int.reduceLT,Int.reduceLE,Int.reduceNeg,mb,Nat.reduceBEq,tys,stb,Va,storeList,Nat.reduceAdd,Nat.reduceLeDiff,tysn,tyr,empty_mk]
  refine loop_rule (fun m T D σ => D = [] ∧ T 4 = .ptr 0 0 ∧ T 0 = v ∧ T 1 = cv ∧ ∃ (L : List AObj) (ts : List Nat) (i : Nat) (st : List Int) (vs : List Iv) (ss : List Rs) (sv : V), σ = ⟨L, ts⟩ ∧ T 5 = sv ∧ L[0]? = some (.cells [.int .i64 0, .int .i64 0, .bool false, .bool false] 73) ∧ blkOf sv ≠ some 0 ∧ SR L sv ss ∧ Rels st vs ss ∧
    T 6 = .int .i64 i ∧ i ≤ l.length ∧ m = l.length - i ∧ ss.length ≤ i ∧ exprL l cs (l.length - i) i st = R ∧ runR l cs (l.length - i) i ss = W) ?_ (l.length - 0) _ _ _ ⟨rfl, rfl, rfl, rfl, _, [], 0, [], [], [], .nilsl, rfl, rfl, rfl, by simp [blkOf], .nil _ _ _, trivial, rfl, by omega, rfl, by simp, hR, hW⟩
  clear hR hW
  rintro m T D σ ⟨rfl, t4, t0, t1, L, ts, i, st, vs, ss, sv, rfl, t5, hz0, hb0, hS, hT, t6, hi, rfl, hvl, hR, hW⟩
  refine G_start ?_
  by_cases hlt : i < l.length
  · have c1 : (i : Int) < (l.length : Int) := by omega
    have e1 : IntKind.i64.wrap ((i : Int) + 1) = ((i + 1 : Nat) : Int) := by rw [wrap_i64 (by omega) (by omega)]; omega
    have hxn := idx_N hv hlt
    change vIndexAddr 3 v (.int .i64 i) = some (.rptr (.int .i64 (gN l i).op :: .int .i64 (gN l i).n :: .str (gN l i).col :: _)) at hxn
    obtain ⟨q, hq⟩ : ∃ q, l.length - i = q + 1 := ⟨l.length - i - 1, by omega⟩
    have hq2 : q = l.length - (i + 1) := by omega
    rw [hq] at hR hW
    obtain ⟨hn, st', hp, hstep⟩ := exprL_ok (hR ▸ r1)
    rw [hR] at hstep
    have hT2 := step_rel hn hp hT hw hb
    obtain ⟨s2, s3, s4⟩ := node_ok hn hp hT hw
    simp only [runR] at hW
    obtain ⟨o1, o2⟩ := nodeE_op hn
    have hlen := hS.len 73
    have fin : ∀ (v' : V) (L' : List AObj) (ts' : List Nat), SR L' v' (stepR l i cs ss) → (stepR l i cs ss).length ≤ i + 1 → L'[0]? = some (.cells [.int .i64 0, .int .i64 0, .bool false, .bool false] 73) → blkOf v' ≠ some 0 →
        ∃ m', m' < l.length - i ∧ ∃ (L : List AObj) (ts_1 : List Nat) (i_1 : Nat) (st : List Int) (vs : List Iv) (ss : List Rs) (sv : V), (⟨L', ts'⟩ : S) = ⟨L, ts_1⟩ ∧ v' = sv ∧ L[0]? = some (.cells [.int .i64 0, .int .i64 0, .bool false, .bool false] 73) ∧ blkOf sv ≠ some 0 ∧ SR L sv ss ∧ Rels st vs ss ∧ V.int .i64 ((i + 1 : Nat) : Int) = .int .i64 i_1 ∧ i_1 ≤ l.length ∧ m' = l.length - i_1 ∧ ss.length ≤ i_1 ∧ exprL l cs (l.length - i_1) i_1 st = R ∧ runR l cs (l.length - i_1) i_1 ss = W :=
      fun v' L' ts' hS' hln hz' hb' => ⟨l.length - (i + 1), by omega, L', ts', i + 1, _, _, _, v', rfl, rfl, hz', hb', hS', hT2, rfl, by omega, rfl, hln, by rw [← hq2, ← hstep], by rw [← hq2]; exact hW⟩
    have hl0 := lt_get hz0
    by_cases hleaf : (gN l i).op ≤ 3
    · obtain ⟨z, hstv, hz⟩ : ∃ z, stepR l i cs ss = ss ++ [z] ∧ ∀ σ, callFn env (ev env) 61 [v, .int .i64 i, cv] σ = some (z.v, σ) := by
        by_cases h1 : (gN l i).op = 1
        · exact ⟨_, by unfold stepR; rw [if_pos h1], leaf1_call v l hv i hlt cv cs hc ok h1⟩
        by_cases h2 : (gN l i).op = 2
        · exact ⟨_, by unfold stepR; rw [if_neg h1, if_pos h2], leaf2_call v l hv i hlt cv cs hc ok hcl h2 (s2 h2)⟩
        have h3 : (gN l i).op = 3 := by omega
        obtain ⟨w1, w2, w3⟩ := s3 h3
        exact ⟨_, by unfold stepR; rw [if_neg h1, if_neg h2, if_pos h3], leaf3_call v l hv hl i hlt cv cs hc ok hcl hs hP h3 w1 w3 (h20 i hlt h3 w3)⟩
      obtain ⟨v', L', hA, hS', hkp', hbk'⟩ := hS.push ts z (by omega)
      have fz := fin v' L' ts (by rw [hstv]; exact hS') (by rw [hstv]; simp; omega) (by rw [hkp' 0 hl0 hb0]; exact hz0) (by rcases hbk' with h | h <;> rw [h] <;> first | exact hb0 | (intro e; simp at e))
      unfold Rs.v at hz
      by_cases h1 : (gN l i).op = 1
      · have g1 : (((gN l i).op : Int) = 1) = True := eq_true h1
        simp -implicitDefEqProofs only [Wa,Wb,Wc,Wd,We,Wf,Wg,Wh,Wi,Wj,Wk,Wl,Wm,Wn,Zo,Zp,evalT,Nat.reduceLT,Nat.reduceEqDiff,if_true,if_false,reduceIte,Ys,ofVal,ofCell,argT,resT,setT,Y0,Int.reduceEq,Int.reduceLT,Int.reduceLE,Int.reduceNeg,mb,Nat.reduceBEq,tys,stb,Va,storeList,Nat.reduceAdd,Nat.reduceLeDiff,tysn,tyr,u96,t4,t0,t1,t5,t6,hln,hlen,c1,e1,hxn,load_hd,YW,g1,hz,build_r,hA,mb40]
        exact fz
      have g1 : (((gN l i).op : Int) = 1) = False := eq_false h1
      by_cases h2 : (gN l i).op = 2
      · have g2 : (((gN l i).op : Int) = 2) = True := eq_true h2
        simp -implicitDefEqProofs only [Wa,Wb,Wc,Wd,We,Wf,Wg,Wh,Wi,Wj,Wk,Wl,Wm,Wn,Zo,Zp,evalT,Nat.reduceLT,Nat.reduceEqDiff,if_true,if_false,reduceIte,Ys,ofVal,ofCell,argT,resT,setT,Y0,Int.reduceEq,Int.reduceLT,Int.reduceLE,Int.reduceNeg,mb,Nat.reduceBEq,tys,stb,Va,storeList,Nat.reduceAdd,Nat.reduceLeDiff,tysn,tyr,u96,t4,t0,t1,t5,t6,hln,hlen,c1,e1,hxn,load_hd,YW,g1,g2,hz,build_r,hA,mb40]
        exact fz
      have g2 : (((gN l i).op : Int) = 2) = False := eq_false h2
      have g3 : (((gN l i).op : Int) = 3) = True := eq_true (by omega)
      simp -implicitDefEqProofs only [Wa,Wb,Wc,Wd,We,Wf,Wg,Wh,Wi,Wj,Wk,Wl,Wm,Wn,Zo,Zp,evalT,Nat.reduceLT,Nat.reduceEqDiff,if_true,if_false,reduceIte,Ys,ofVal,ofCell,argT,resT,setT,Y0,Int.reduceEq,Int.reduceLT,Int.reduceLE,Int.reduceNeg,mb,Nat.reduceBEq,tys,stb,Va,storeList,Nat.reduceAdd,Nat.reduceLeDiff,tysn,tyr,u96,t4,t0,t1,t5,t6,hln,hlen,c1,e1,hxn,load_hd,YW,g1,g2,g3,hz,build_r,hA,mb40]
      exact fz
    have h1 : ¬ (gN l i).op = 1 := by omega
    have h2 : ¬ (gN l i).op = 2 := by omega
    have h3 : ¬ (gN l i).op = 3 := by omega
    have g1 : (((gN l i).op : Int) = 1) = False := eq_false h1
    have g2 : (((gN l i).op : Int) = 2) = False := eq_false h2
    have g3 : (((gN l i).op : Int) = 3) = False := eq_false h3
    have o4 : 4 ≤ (gN l i).op := by omega
    obtain ⟨a1, a2⟩ := s4 o4
    rw [← hT.len.1, hT.len.2] at a1
    have hstv : stepR l i cs ss = ss.take (ss.length - (arI (gN l i).op).toNat) ++ [opR (gN l i).op (ss.getD (ss.length - (arI (gN l i).op).toNat) Rs.none) (ss.getD (ss.length - (arI (gN l i).op).toNat + 1) Rs.none) (ss.getD (ss.length - (arI (gN l i).op).toNat + 2) Rs.none)] := by unfold stepR; rw [if_neg h1, if_neg h2, if_neg h3, getR_drop, getR_drop, getR_drop]; rfl
    have e3 : ∀ k : Nat, k ≤ ss.length → IntKind.i64.wrap ((ss.length : Int) - (k : Int)) = ((ss.length - k : Nat) : Int) := fun k hk => by rw [wrap_i64 (by omega) (by omega)]; omega
    by_cases h7 : (gN l i).op = 7
    · have g7 : (((gN l i).op : Int) = 7) = True := eq_true h7
      rw [h7] at a1 hstv
      change 1 ≤ ss.length at a1
      have e1' := e3 1 a1
      change IntKind.i64.wrap ((ss.length : Int) - 1) = _ at e1'
      change stepR l i cs ss = ss.take (ss.length - 1) ++ [numR (wr (0 - (ss.getD (ss.length - 1) Rs.none).hi)) (wr (0 - (ss.getD (ss.length - 1) Rs.none).lo))] at hstv
      obtain ⟨b, o, hp1, hpb, k4, k0, k1, k2, k3, hst⟩ := hS.at (show ss.length - 1 < ss.length by omega)
      obtain ⟨L', hst, hS', hkp'⟩ := hst ts (numR (wr (0 - (ss.getD (ss.length - 1) Rs.none).hi)) (wr (0 - (ss.getD (ss.length - 1) Rs.none).lo)))
      rw [setr_last (n := ss.length - 1) (by omega), ← hstv] at hS'
      have fz := fin sv L' ts hS' (by rw [hstv, List.length_append, List.length_take]; simp; omega) (by rw [hkp' 0 (by intro e; rw [hpb, ← e] at hb0; exact hb0 rfl)]; exact hz0) hb0
      have hst : storeCellsV ⟨L, ts⟩ [.int .i64 (IntKind.i64.wrap (0 - (ss.getD (ss.length - 1) Rs.none).hi)), .int .i64 (IntKind.i64.wrap (0 - (ss.getD (ss.length - 1) Rs.none).lo)), .bool false, .bool false] (.ptr b o) = some ⟨L', ts⟩ := hst
      simp -implicitDefEqProofs only [Wa,Wb,Wc,Wd,We,Wf,Wg,Wh,Wi,Wj,Wk,Wl,Wm,Wn,Zo,Zp,evalT,Nat.reduceLT,Nat.reduceEqDiff,if_true,if_false,reduceIte,Ys,ofVal,ofCell,argT,resT,setT,Y0,Int.reduceEq,Int.reduceLT,Int.reduceLE,Int.reduceNeg,mb,Nat.reduceBEq,tys,stb,Va,storeList,Nat.reduceAdd,Nat.reduceLeDiff,tysn,tyr,u96,t4,t0,t1,t5,t6,hln,hlen,c1,e1,e1',hxn,load_hd,YW,g1,g2,g3,g7,hp1,k0,k1,build73n,hst,mb40]
      exact ⟨by kernel_rfl, fz⟩
    have g7 : (((gN l i).op : Int) = 7) = False := eq_false h7
    by_cases h17 : (gN l i).op = 17
    · have g17 : (((gN l i).op : Int) = 17) = True := eq_true h17
      rw [h17] at a1 hstv
      change 1 ≤ ss.length at a1
      have e1' := e3 1 a1
      change IntKind.i64.wrap ((ss.length : Int) - 1) = _ at e1'
      change stepR l i cs ss = ss.take (ss.length - 1) ++ [turnR (ss.getD (ss.length - 1) Rs.none)] at hstv
      obtain ⟨b, o, hp1, hpb, k4, k0, k1, k2, k3, hst⟩ := hS.at (show ss.length - 1 < ss.length by omega)
      obtain ⟨L', hst, hS', hkp'⟩ := hst ts (turnR (ss.getD (ss.length - 1) Rs.none))
      rw [setr_last (n := ss.length - 1) (by omega), ← hstv] at hS'
      have fz := fin sv L' ts hS' (by rw [hstv, List.length_append, List.length_take]; simp; omega) (by rw [hkp' 0 (by intro e; rw [hpb, ← e] at hb0; exact hb0 rfl)]; exact hz0) hb0
      have hN := turnr_call (ss.getD (ss.length - 1) Rs.none)
      unfold Rs.v at hN
      simp -implicitDefEqProofs only [Wa,Wb,Wc,Wd,We,Wf,Wg,Wh,Wi,Wj,Wk,Wl,Wm,Wn,Zo,Zp,evalT,Nat.reduceLT,Nat.reduceEqDiff,if_true,if_false,reduceIte,Ys,ofVal,ofCell,argT,resT,setT,Y0,Int.reduceEq,Int.reduceLT,Int.reduceLE,Int.reduceNeg,mb,Nat.reduceBEq,tys,stb,Va,storeList,Nat.reduceAdd,Nat.reduceLeDiff,tysn,tyr,u96,t4,t0,t1,t5,t6,hln,hlen,c1,e1,e1',hxn,load_hd,YW,g1,g2,g3,g7,g17,hp1,k4,hN,hst,mb40]
      exact fz
    have g17 : (((gN l i).op : Int) = 17) = False := eq_false h17
    by_cases h8 : (gN l i).op = 8
    · have g8 : (((gN l i).op : Int) = 8) = True := eq_true h8
      rw [h8] at a1 hstv
      change 3 ≤ ss.length at a1
      have e1' := e3 1 (by omega)
      have e2' := e3 2 (by omega)
      have e3' := e3 3 (by omega)
      change IntKind.i64.wrap ((ss.length : Int) - 1) = _ at e1'
      change IntKind.i64.wrap ((ss.length : Int) - 2) = _ at e2'
      change IntKind.i64.wrap ((ss.length : Int) - 3) = _ at e3'
      have hstv : stepR l i cs ss = ss.take (ss.length - 3) ++ [choiceR (ss.getD (ss.length - 3) Rs.none) (ss.getD (ss.length - 2) Rs.none) (ss.getD (ss.length - 1) Rs.none)] := by
        rw [hstv]
        change ss.take (ss.length - 3) ++ [choiceR (ss.getD (ss.length - 3) Rs.none) (ss.getD (ss.length - 3 + 1) Rs.none) (ss.getD (ss.length - 3 + 2) Rs.none)] = _
        rw [show ss.length - 3 + 1 = ss.length - 2 by omega, show ss.length - 3 + 2 = ss.length - 1 by omega]
      obtain ⟨b1, q1, x1, _, x4, _⟩ := hS.at (show ss.length - 1 < ss.length by omega)
      obtain ⟨b2, q2, y1, _, y4, _⟩ := hS.at (show ss.length - 2 < ss.length by omega)
      obtain ⟨b3, q3, z1, _, z4, _⟩ := hS.at (show ss.length - 3 < ss.length by omega)
      have hN := choicer_call (ss.getD (ss.length - 3) Rs.none) (ss.getD (ss.length - 2) Rs.none) (ss.getD (ss.length - 1) Rs.none)
      obtain ⟨v1, hcut, hS2, hb2⟩ := hS.cut (ss.length - 3) (by omega)
      obtain ⟨v', L', hA, hS', hkp', hbk'⟩ := hS2.push ts (choiceR (ss.getD (ss.length - 3) Rs.none) (ss.getD (ss.length - 2) Rs.none) (ss.getD (ss.length - 1) Rs.none)) (by rw [List.length_take]; omega)
      rw [hb2] at hkp' hbk'
      have fz := fin v' L' ts (by rw [hstv]; exact hS') (by rw [hstv, List.length_append, List.length_take]; simp; omega) (by rw [hkp' 0 hl0 hb0]; exact hz0) (by rcases hbk' with h | h <;> rw [h] <;> first | exact hb0 | (intro e; simp at e))
      generalize choiceR (ss.getD (ss.length - 3) Rs.none) (ss.getD (ss.length - 2) Rs.none) (ss.getD (ss.length - 1) Rs.none) = w at *
      unfold Rs.v at hN
      simp -implicitDefEqProofs only [Wa,Wb,Wc,Wd,We,Wf,Wg,Wh,Wi,Wj,Wk,Wl,Wm,Wn,Zo,Zp,evalT,Nat.reduceLT,Nat.reduceEqDiff,if_true,if_false,reduceIte,Ys,ofVal,ofCell,argT,resT,setT,Y0,Int.reduceEq,Int.reduceLT,Int.reduceLE,Int.reduceNeg,mb,Nat.reduceBEq,tys,stb,Va,storeList,Nat.reduceAdd,Nat.reduceLeDiff,tysn,tyr,u96,t4,t0,t1,t5,t6,hln,hlen,c1,e1,e1',e2',e3',hxn,load_hd,YW,g1,g2,g3,g7,g17,g8,x1,x4,y1,y4,z1,z4,hN,opT_slice,optO_none,optO_some,hcut,hA,build_r,mb40]
      exact ⟨by kernel_rfl, fz⟩
    have g8 : (((gN l i).op : Int) = 8) = False := eq_false h8
    have har : arI (gN l i).op = 2 := by unfold arI; rw [if_neg (by omega), if_neg h8]
    rw [har] at a1 hstv
    change 2 ≤ ss.length at a1
    have e1' := e3 1 (by omega)
    have e2' := e3 2 (by omega)
    change IntKind.i64.wrap ((ss.length : Int) - 1) = _ at e1'
    change IntKind.i64.wrap ((ss.length : Int) - 2) = _ at e2'
    obtain ⟨w, hw1, hN⟩ : ∃ w, stepR l i cs ss = ss.take (ss.length - 2) ++ [w] ∧ ∀ σ, callFn env (ev env) 64 [.int .i64 (gN l i).op, (ss.getD (ss.length - 2) Rs.none).v, (ss.getD (ss.length - 1) Rs.none).v] σ = some (w.v, σ) := by
      refine ⟨opR (gN l i).op (ss.getD (ss.length - 2) Rs.none) (ss.getD (ss.length - 1) Rs.none) (ss.getD ss.length Rs.none), ?_, twor_call (gN l i).op ⟨o4, o2, h7, h8, h17⟩ _ _ _ fun h6 => ?_⟩
      · rw [hstv]
        change ss.take (ss.length - 2) ++ [opR (gN l i).op (ss.getD (ss.length - 2) Rs.none) (ss.getD (ss.length - 2 + 1) Rs.none) (ss.getD (ss.length - 2 + 2) Rs.none)] = _
        rw [show ss.length - 2 + 1 = ss.length - 1 by omega, show ss.length - 2 + 2 = ss.length by omega]
      · rw [h6] at hp; exact mul_ok hp hT
    obtain ⟨b1, q1, x1, _, x4, _⟩ := hS.at (show ss.length - 1 < ss.length by omega)
    obtain ⟨b2, q2, y1, _, y4, _⟩ := hS.at (show ss.length - 2 < ss.length by omega)
    obtain ⟨v1, hcut, hS2, hb2⟩ := hS.cut (ss.length - 2) (by omega)
    obtain ⟨v', L', hA, hS', hkp', hbk'⟩ := hS2.push ts w (by rw [List.length_take]; omega)
    rw [hb2] at hkp' hbk'
    have fz := fin v' L' ts (by rw [hw1]; exact hS') (by rw [hw1, List.length_append, List.length_take]; simp; omega) (by rw [hkp' 0 hl0 hb0]; exact hz0) (by rcases hbk' with h | h <;> rw [h] <;> first | exact hb0 | (intro e; simp at e))
    unfold Rs.v at hN
    simp -implicitDefEqProofs only [Wa,Wb,Wc,Wd,We,Wf,Wg,Wh,Wi,Wj,Wk,Wl,Wm,Wn,Zo,Zp,evalT,Nat.reduceLT,Nat.reduceEqDiff,if_true,if_false,reduceIte,Ys,ofVal,ofCell,argT,resT,setT,Y0,Int.reduceEq,Int.reduceLT,Int.reduceLE,Int.reduceNeg,mb,Nat.reduceBEq,tys,stb,Va,storeList,Nat.reduceAdd,Nat.reduceLeDiff,tysn,tyr,u96,t4,t0,t1,t5,t6,hln,hlen,c1,e1,e1',e2',hxn,load_hd,YW,g1,g2,g3,g7,g17,g8,x1,x4,y1,y4,hN,opT_slice,optO_none,optO_some,hcut,hA,build_r,mb40]
    exact ⟨by kernel_rfl, fz⟩
  · have hil : i = l.length := by omega
    subst hil
    have c1 : ¬ (l.length : Int) < (l.length : Int) := by omega
    rw [Nat.sub_self] at hR hW
    simp only [exprL] at hR
    simp only [runR] at hW
    subst hR hW
    have hlen : ss.length = 1 := by rw [← hT.len.2]; simp only at r2; rw [r2]; rfl
    obtain ⟨b, o, hp, hpb, k4, _⟩ := hS.at (show 0 < ss.length by omega)
    have hp : vIndexAddr 4 sv (.int .i64 0) = some (.ptr b o) := hp
    have hl0 := lt_get hz0
    simp -implicitDefEqProofs only [Wa,Wb,Wc,Wd,We,Wf,Wg,Wh,Wi,Wj,Wk,Wl,Wm,Wn,Zo,Zp,evalT,Nat.reduceLT,Nat.reduceEqDiff,if_true,if_false,reduceIte,Ys,ofVal,ofCell,argT,resT,setT,Y0,Int.reduceEq,Int.reduceLT,Int.reduceLE,Int.reduceNeg,mb,Nat.reduceBEq,tys,stb,Va,storeList,Nat.reduceAdd,Nat.reduceLeDiff,tysn,tyr,u96,t4,t0,t1,t5,t6,hln,c1,Int.natCast_zero,hp,k4,hz0,YW,isCell_int,isCell_bool]
    refine V1i (v := [(ss.getD 0 Rs.none).v]) ?_ ?_
    · have e : ∀ (h : List AObj) (a b c d : V) (t : TypeId), h[0]? = some (.cells [a, b, c, d] t) → loadCellsV h 4 (.ptr 0 0) = some [a, b, c, d] := fun h a b c d t hh => by simp [loadCellsV, hh]
      rw [e _ _ _ _ _ _ (List.getElem?_set_self hl0)]; rfl
    · rfl
end Go.Proofs.YtcjapamldllleaaDoor
namespace Go.Proofs.YtcjapamldllleaaDoor
open Go.Ab
set_option maxHeartbeats 4000000
set_option maxHeartbeats 4000000
set_option maxRecDepth 100000
set_option linter.unusedSimpArgs false
set_option linter.unusedVariables false
theorem at15 : env.P.funcs[15]? = some Tryd.f15 := by kernel_rfl
theorem at17 : env.P.funcs[17]? = some Tryd.f17 := by kernel_rfl
theorem ok_word {c : Col} (h : OkCol c) {s : List UInt8} (hs : s ∈ c.ws) : s.length ≤ 20 := by
  obtain ⟨_, h⟩ := h
  unfold colE at h
  split at h
  · rename_i h0; rw [List.eq_nil_of_length_eq_zero h0] at hs; simp at hs
  · split at h
    · simp at h
    · split at h
      · simp at h
      · rename_i h2
        obtain ⟨i, hi, e⟩ := List.mem_iff_getElem.1 hs
        have : IsName (c.ws.getD i []) := Classical.byContradiction fun hn => h2 ⟨i, hi, hn⟩
        rw [List.getD_eq_getElem?_getD, List.getElem?_eq_getElem hi, e] at this
        exact this.2.1
def spanR (l : List Nd) (cs : List Col) : Rs := (runR l cs l.length 0 []).getD 0 Rs.none
section
variable {v : V} {l : List Nd} {cv : V} {cs : List Col}
theorem Fine.ofr (F : Fine v l cv cs) (hP : Proper cs) (cond : Bool) (hE : exprE l cs cond = 0) (σ : S) : callFn env (ev env) 40 [v, cv] σ = some ((spanR l cs).v, σ) :=
  ofr_call v l F.hv F.hl cv cs F.hc F.ok F.hcl F.hw F.hs hP (bounds_of hP F.hs) (fun i hi h3 hm => by
    have hk0 : 0 ≤ seekK cs (gN l (i - 1)).col := Classical.byContradiction fun h => by unfold colN at hm; rw [if_neg h] at hm; simp [Col.none] at hm
    obtain ⟨j, k1, k2, k3⟩ := colN_at hk0
    rw [k3] at hm
    exact ok_word (hP j k2) hm) cond hE σ
theorem Fine.rel (F : Fine v l cv cs) (cond : Bool) (h : Acc l cs cond) : Rel (if cond then 1 else 0) (spanV l cs) (spanR l cs) := by
  obtain ⟨r1, r2, _⟩ := exprE_zero h.1
  have hr := run_rel F.hw (bounds_of h.2 F.hs) l.length 0 [] [] [] r1 trivial
  rw [r2] at hr
  exact hr.get 0 (by simp)
open Classical in
theorem refof_call (F : Fine v l cv cs) (σ : S) : callFn env (ev env) 15 [v, cv] σ = some (.tup (if Acc l cs false then [.int .i64 (spanV l cs).1, .int .i64 (spanV l cs).2] else [.int .i64 0, .int .i64 0]), σ) := by
  refine callFn_pure rfl rfl (by simp [V.closed, V.closed.closedL, closed_C F.hc F.ok, closed_N F.hv]) at15 rfl (by simp [Tryd.f15]) (by simp [Tryd.f15]) (G_start ?_) σ
  have hA := exprr_call v l F.hv (Nat.le_trans F.hl (by omega)) cv cs F.hc F.ok F.hcl (fun i hi => (F.hs i hi).2.1) false
  have hP := proper_call cv cs F.hc F.ok F.hcl F.hs
  unfold Acc
  by_cases h0 : exprE l cs false = 0
  · have g0 : ((exprE l cs false : Int) = 0) = True := eq_true h0
    by_cases h1 : Proper cs
    · rw [decide_eq_true h1] at hP
      rw [if_pos ⟨h0, h1⟩]
      obtain ⟨_, _, _, e1, e2⟩ := (F.rel false ⟨h0, h1⟩).num
      have hR := F.ofr h1 false h0
      unfold Rs.v at hR
      rw [e1, e2] at hR
      simp -implicitDefEqProofs only [Tryd.f15,Wa,Wb,Wc,Wd,We,Wf,Wg,Wh,Wi,Wj,Wk,Wl,Wm,Wn,Zo,Zp,evalT,Nat.reduceLT,Nat.reduceEqDiff,if_true,if_false,reduceIte,Ys,ofVal,ofCell,argT,resT,setT,Y0,Int.reduceEq,Int.reduceLT,Int.reduceLE,Int.reduceNeg,mb,Nat.reduceBEq,tys,stb,Va,storeList,Nat.reduceAdd,Nat.reduceLeDiff,tysn,tyr,empty_mk,hA,g0,hP,hR,YW,isCell_int,isCell_bool]
      exact ⟨by kernel_rfl, rfl⟩
    · rw [if_neg (fun h => h1 h.2)]
      rw [decide_eq_false h1] at hP
      simp -implicitDefEqProofs only [Tryd.f15,Wa,Wb,Wc,Wd,We,Wf,Wg,Wh,Wi,Wj,Wk,Wl,Wm,Wn,Zo,Zp,evalT,Nat.reduceLT,Nat.reduceEqDiff,if_true,if_false,reduceIte,Ys,ofVal,ofCell,argT,resT,setT,Y0,Int.reduceEq,Int.reduceLT,Int.reduceLE,Int.reduceNeg,mb,Nat.reduceBEq,tys,stb,tysn,empty_mk,hA,g0,hP]
      rfl
  · have g0 : ((exprE l cs false : Int) = 0) = False := eq_false h0
    rw [if_neg (fun h => h0 h.1)]
    simp -implicitDefEqProofs only [Tryd.f15,Wa,Wb,Wc,Wd,We,Wf,Wg,Wh,Wi,Wj,Wk,Wl,Wm,Wn,Zo,Zp,evalT,Nat.reduceLT,Nat.reduceEqDiff,if_true,if_false,reduceIte,Ys,ofVal,ofCell,argT,resT,setT,Y0,Int.reduceEq,Int.reduceLT,Int.reduceLE,Int.reduceNeg,mb,Nat.reduceBEq,tys,stb,tysn,empty_mk,hA,g0]
    rfl
open Classical in
theorem refcan_call (F : Fine v l cv cs) (σ : S) : callFn env (ev env) 17 [v, cv] σ = some (.tup (if Acc l cs true then [.bool (decide ((spanV l cs).2 = 1)), .bool (decide ((spanV l cs).1 = 0))] else [.bool false, .bool false]), σ) := by
  refine callFn_pure rfl rfl (by simp [V.closed, V.closed.closedL, closed_C F.hc F.ok, closed_N F.hv]) at17 rfl (by simp [Tryd.f17]) (by simp [Tryd.f17]) (G_start ?_) σ
  have hA := exprr_call v l F.hv (Nat.le_trans F.hl (by omega)) cv cs F.hc F.ok F.hcl (fun i hi => (F.hs i hi).2.1) true
  have hP := proper_call cv cs F.hc F.ok F.hcl F.hs
  unfold Acc
  by_cases h0 : exprE l cs true = 0
  · have g0 : ((exprE l cs true : Int) = 0) = True := eq_true h0
    by_cases h1 : Proper cs
    · rw [decide_eq_true h1] at hP
      rw [if_pos ⟨h0, h1⟩]
      obtain ⟨_, _, _, e1, e2⟩ := (F.rel true ⟨h0, h1⟩).bit
      have hR := F.ofr h1 true h0
      unfold Rs.v at hR
      rw [e1, e2] at hR
      simp -implicitDefEqProofs only [Tryd.f17,Wa,Wb,Wc,Wd,We,Wf,Wg,Wh,Wi,Wj,Wk,Wl,Wm,Wn,Zo,Zp,evalT,Nat.reduceLT,Nat.reduceEqDiff,if_true,if_false,reduceIte,Ys,ofVal,ofCell,argT,resT,setT,Y0,Int.reduceEq,Int.reduceLT,Int.reduceLE,Int.reduceNeg,mb,Nat.reduceBEq,tys,stb,Va,storeList,Nat.reduceAdd,Nat.reduceLeDiff,tysn,tyr,empty_mk,hA,g0,hP,hR,YW,isCell_int,isCell_bool]
      refine ⟨by kernel_rfl, ?_⟩
      simp [oneOr, sealDepth, sealV_tup, mapM_seal_cons, mapM_seal_nil, sealV_bool]
    · rw [if_neg (fun h => h1 h.2)]
      rw [decide_eq_false h1] at hP
      simp -implicitDefEqProofs only [Tryd.f17,Wa,Wb,Wc,Wd,We,Wf,Wg,Wh,Wi,Wj,Wk,Wl,Wm,Wn,Zo,Zp,evalT,Nat.reduceLT,Nat.reduceEqDiff,if_true,if_false,reduceIte,Ys,ofVal,ofCell,argT,resT,setT,Y0,Int.reduceEq,Int.reduceLT,Int.reduceLE,Int.reduceNeg,mb,Nat.reduceBEq,tys,stb,tysn,empty_mk,hA,g0,hP]
      rfl
  · have g0 : ((exprE l cs true : Int) = 0) = False := eq_false h0
    rw [if_neg (fun h => h0 h.1)]
    simp -implicitDefEqProofs only [Tryd.f17,Wa,Wb,Wc,Wd,We,Wf,Wg,Wh,Wi,Wj,Wk,Wl,Wm,Wn,Zo,Zp,evalT,Nat.reduceLT,Nat.reduceEqDiff,if_true,if_false,reduceIte,Ys,ofVal,ofCell,argT,resT,setT,Y0,Int.reduceEq,Int.reduceLT,Int.reduceLE,Int.reduceNeg,mb,Nat.reduceBEq,tys,stb,tysn,empty_mk,hA,g0]
    rfl
end
end Go.Proofs.YtcjapamldllleaaDoor
namespace Go.Proofs.YtcjapamldllleaaDoor
open Go.Ab
set_option maxHeartbeats 4000000
set_option maxHeartbeats 4000000
set_option maxRecDepth 100000
set_option linter.unusedSimpArgs false
set_option linter.unusedVariables false
theorem at4 : env.P.funcs[4]? = some Tryd.f4 := by kernel_rfl
open Classical in
theorem bounds_found (awake : ∀ σ, callFn env (ev env) 9 [] σ = some (.bool true, σ)) (v : V) (l : List Nd) (hv : IsN v l) (hl : l.length < 2 ^ 63) (cv : V) (cs : List Col) (hc : IsC cv cs) (hg : ∀ c ∈ cs, GoodC c) (hcl : cs.length < 2 ^ 63) : Go.Ab.Found env 4 [v, cv] := by
  refine found_of_wp at4 rfl (by simp [Tryd.f4]) (by simp [Tryd.f4]) (G_start ?_)
  have hLa := large_call v l hv hl cv cs hc (okC_good hg) hcl .nilsl [] (.inl ⟨rfl, rfl⟩) (by decide)
  by_cases hL : Large l cs []
  · rw [decide_eq_true hL] at hLa
    simp -implicitDefEqProofs only [Tryd.f4,Wa,Wb,Wc,Wd,We,Wf,Wg,Wh,Wi,Wj,Wk,Wl,Wm,Wn,Zo,Zp,evalT,Nat.reduceLT,Nat.reduceEqDiff,if_true,if_false,reduceIte,Ys,ofVal,ofCell,argT,resT,setT,Y0,Int.reduceEq,Int.reduceLT,Int.reduceLE,Int.reduceNeg,mb,Nat.reduceBEq,tys,stb,tysn,empty_mk,hLa,awake]
    simp [oneOr]
  · rw [decide_eq_false hL] at hLa
    have F := fine_of hv hc hg hL
    have h14 := of_call F
    have h15 := refof_call F
    have h16 := can_call F
    have h17 := refcan_call F
    obtain ⟨a, b, hab⟩ : ∃ a b, (if Acc l cs false then [V.int .i64 (spanV l cs).1, V.int .i64 (spanV l cs).2] else [V.int .i64 0, V.int .i64 0]) = [V.int .i64 a, V.int .i64 b] := by
      by_cases h : Acc l cs false
      · exact ⟨_, _, by rw [if_pos h]⟩
      · exact ⟨_, _, by rw [if_neg h]⟩
    obtain ⟨c, d, hcd⟩ : ∃ c d, (if Acc l cs true then [V.bool (decide ((spanV l cs).2 = 1)), V.bool (decide ((spanV l cs).1 = 0))] else [V.bool false, V.bool false]) = [V.bool c, V.bool d] := by
      by_cases h : Acc l cs true
      · exact ⟨_, _, by rw [if_pos h]⟩
      · exact ⟨_, _, by rw [if_neg h]⟩
    rw [hab] at h14 h15
    rw [hcd] at h16 h17
    have ga : ((a : Int) = a) = True := eq_self a
    have gb : ((b : Int) = b) = True := eq_self b
    cases c <;> cases d <;>
    · simp -implicitDefEqProofs only [Tryd.f4,Wa,Wb,Wc,Wd,We,Wf,Wg,Wh,Wi,Wj,Wk,Wl,Wm,Wn,Zo,Zp,evalT,Nat.reduceLT,Nat.reduceEqDiff,if_true,if_false,reduceIte,Ys,ofVal,ofCell,argT,resT,setT,Y0,Int.reduceEq,Int.reduceLT,Int.reduceLE,Int.reduceNeg,mb,Nat.reduceBEq,tys,stb,tysn,empty_mk,hLa,awake,h14,h15,h16,h17,ga,gb]
      simp [oneOr]
theorem bounds_foundt (awake : ∀ σ, callFn env (ev env) 9 [] σ = some (.bool true, σ)) {u w : V} (h : Tyd Tryd.prog 6 22 [u]) (h2 : Tyd Tryd.prog 6 23 [w]) : Go.Ab.Found env 4 [u, w] := by
  obtain ⟨l, a1, a2⟩ := tyd_NS (k := 3) h
  obtain ⟨cs, b1, b2, b3⟩ := tyd_CS (k := 2) h2
  exact bounds_found awake u l a1 a2 w cs b1 b2 b3
end Go.Proofs.YtcjapamldllleaaDoor
