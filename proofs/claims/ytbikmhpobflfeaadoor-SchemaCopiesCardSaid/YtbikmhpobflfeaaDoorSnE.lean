/- Proved here: same schemas and copies. Conditions: those of each theorem; no statement of the seat is proved in this text. -/
import Derived.Test.YtbikmhpobflfeaaDoorSnD
namespace Go.Proofs.YtbikmhpobflfeaaDoor
open Go.Ab
set_option maxHeartbeats 4000000
set_option maxRecDepth 100000
set_option linter.unusedSimpArgs false
set_option linter.unusedVariables false
set_option linter.unusedSectionVars false
theorem at25 : env.P.funcs[25]? = some Tryd.f25 := by kernel_rfl
def SameC (c d : Col) : Prop := c.name = d.name ∧ c.lo = d.lo ∧ c.hi = d.hi ∧ c.ws = d.ws
def SameL (cs ds : List Col) : Prop := cs.length = ds.length ∧ ∀ i, i < cs.length → SameC (cs.getD i Col.none) (ds.getD i Col.none)
theorem ext_ws {a b : List (List UInt8)} (hl : a.length = b.length) (h : ∀ j, j < a.length → a.getD j [] = b.getD j []) : a = b := by
  apply List.ext_getElem hl
  intro i h1 h2
  have := h i h1
  simpa [List.getD, h1, h2] using this
def oC (c : Col) : AObj := .cells [.str c.name, .int .i64 c.lo, .int .i64 c.hi, c.w] 44
theorem same_region {Q : Post} {ks : List Kt} {T : Tm} {D : List DE} {L : List AObj} {ts : List Nat} {a b c a' b' c' : V} {cv dv : V} {cs ds : List Col} {i : Nat} (hc : IsC cv cs) (hd : IsC dv ds) (ok : OkC cs) (ok2 : OkC ds) (h1 : i < cs.length) (h2 : i < ds.length)
    (l0 : L[0]? = some (.cells [a, b, c, cv] 29)) (l1 : L[1]? = some (.cells [a', b', c', dv] 29)) (t2 : T 2 = .ptr 0 0) (t3 : T 3 = .ptr 1 0) (t5 : T 5 = .int .i64 i)
    (h : ∀ T', T' 2 = .ptr 0 0 → T' 3 = .ptr 1 0 → T' 5 = .int .i64 i → T' 6 = .ptr L.length 0 → T' 7 = .ptr (L.length + 1) 0 → G env 25 none 100 Q ks .skip T' D ⟨L ++ [oC (cs.getD i Col.none), oC (ds.getD i Col.none)], ts⟩) :
    G env 25 none 100 Q ks (regB 6 (bodyOf Tryd.f25)) T D ⟨L, ts⟩ := by
  have hx := idx_C hc h1
  have hy := idx_C hd h2
  have hic := isCell_W (ok.at h1)
  have hid := isCell_W (ok2.at h2)
  unfold oC at h
  generalize cs.getD i Col.none = x at *
  generalize ds.getD i Col.none = y at *
  have hn0 := lt_of_get l0
  have hn1 := lt_of_get l1
  simp only [regB, bodyOf, Tryd.f25, Option.getD_some, regO, Option.or, Nat.reduceEqDiff, if_false, if_true, reduceIte]
  refine G_float rfl (fun s => s.heap[0]? = some (.cells [a, b, c, cv] 29) ∧ s.heap[1]? = some (.cells [a', b', c', dv] 29)) (L := [.cells [.str [], .int .i64 0, .int .i64 0, .nilsl] 44, .cells [.str [], .int .i64 0, .int .i64 0, .nilsl] 44])
    (masks := [0, 1, 0, 7, 15, 0, 32, 0, 224, 480, 0, 0, 3103, 8191]) (al := [10, 11]) (by kernel_rfl) (by kernel_rfl) (by kernel_rfl) (by kernel_rfl) (by kernel_rfl) ⟨get_app l0 _, get_app l1 _⟩ ?_
  simp -implicitDefEqProofs only [Wa,Wb,Wc,Wd,We,Wf,Wg,Wh,Wi,Wj,Wk,Wl,Wm,Wn,Zo,Zp,evalT,Nat.reduceLT,Nat.reduceEqDiff,if_true,if_false,reduceIte,Ys,ofVal,ofCell,argT,resT,setT,Y0,Int.reduceEq,Int.reduceLT,Int.reduceLE,Int.reduceNeg,mb,Nat.reduceBEq,tys,stb,Qf,Qg,Qh,Qi,Qj,Qk,Ql,Qm,Qn,Qo,Qp,Qq,Qr,Qs,Qt,Qu,Qv,Qw,Qx,Qy,Qz,QA,QB,QC,QD,QE,QF,QG,QH,QI,QJ,QK,QL,QM,QN,QO,QP,QQ,QR,QS,QT,QU,QV,QW,QX,QY,QZ,Q0,Q1,Q2,Q3,Q4,aread_load,tys2,t2,t3,t5,get_app l0,get_app l1,hx,hy,agg44,load4_rptr,end2_0,end2_1,set2_0,set2_1,storeList,List.take_zero,List.drop_zero,List.drop_succ_cons,List.drop_nil,List.all_cons,List.all_nil,isCell_str,isCell_int,YG,hic,hid,YW,Nat.reduceAdd,Nat.reduceLeDiff,implies_true,
    ptr_old, hn0, hn1, ptr_new0 _ [10, 11] _ _ 10 rfl, ptr_new _ [10, 11] _ 1 _ 11 rfl, show Nat.testBit 3103 10 = true from rfl, show Nat.testBit 8191 11 = true from rfl]
  exact ⟨fun s h => by rw [h.1]; rfl, fun s h => by rw [h.2]; rfl, h _ t2 t3 t5 rfl rfl⟩
theorem seal_b (h : List AObj) (b b' : Bool) (e : b = b') : sealV h sealDepth (oneOr [V.bool b]) = some (.bool b') := by
  subst e; simp [oneOr, sealDepth, sealV_bool]
open Classical in
theorem refsame_call (nm nm2 : List UInt8) (pb pb2 : Bool) (many many2 : Int) (cv dv : V) (cs ds : List Col) (hc : IsC cv cs) (hd : IsC dv ds) (ok : OkC cs) (ok2 : OkC ds) (hl : cs.length ≤ 1000) (hw : ∀ i, i < cs.length → (cs.getD i Col.none).ws.length ≤ 1000) (σ : S) :
    callFn env (ev env) 25 [.agg [.str nm, .bool pb, .int .i64 many, cv], .agg [.str nm2, .bool pb2, .int .i64 many2, dv]] σ = some (.bool (decide (nm = nm2 ∧ pb = pb2 ∧ many = many2 ∧ SameL cs ds)), σ) := by
  refine callFn_pure rfl rfl (by simp [V.closed, V.closed.closedL, closed_C hc ok, closed_C hd ok2]) at25 rfl (by simp [Tryd.f25]) (by simp [Tryd.f25]) (G_start ?_) σ
  by_cases h1 : nm = nm2
  case neg =>
    simp -implicitDefEqProofs only [Tryd.f25,Wa,Wb,Wc,Wd,We,Wf,Wg,Wh,Wi,Wj,Wk,Wl,Wm,Wn,Zo,Zp,evalT,Nat.reduceLT,Nat.reduceEqDiff,if_true,if_false,reduceIte,Ys,ofVal,ofCell,argT,resT,setT,Y0,Int.reduceEq,Int.reduceLT,Int.reduceLE,Int.reduceNeg,mb,Nat.reduceBEq,tys,stb,tys2,empty_mk,vBin_sneq,h1]
    simp [oneOr, sealDepth, sealV_bool, h1]
  by_cases h2 : pb = pb2
  case neg =>
    simp -implicitDefEqProofs only [Tryd.f25,Wa,Wb,Wc,Wd,We,Wf,Wg,Wh,Wi,Wj,Wk,Wl,Wm,Wn,Zo,Zp,evalT,Nat.reduceLT,Nat.reduceEqDiff,if_true,if_false,reduceIte,Ys,ofVal,ofCell,argT,resT,setT,Y0,Int.reduceEq,Int.reduceLT,Int.reduceLE,Int.reduceNeg,mb,Nat.reduceBEq,tys,stb,tys2,empty_mk,vBin_sneq,h1,h2]
    simp [oneOr, sealDepth, sealV_bool, h2]
  by_cases h3 : many = many2
  case neg =>
    simp -implicitDefEqProofs only [Tryd.f25,Wa,Wb,Wc,Wd,We,Wf,Wg,Wh,Wi,Wj,Wk,Wl,Wm,Wn,Zo,Zp,evalT,Nat.reduceLT,Nat.reduceEqDiff,if_true,if_false,reduceIte,Ys,ofVal,ofCell,argT,resT,setT,Y0,Int.reduceEq,Int.reduceLT,Int.reduceLE,Int.reduceNeg,mb,Nat.reduceBEq,tys,stb,tys2,empty_mk,vBin_sneq,h1,h2,h3]
    simp [oneOr, sealDepth, sealV_bool, h3]
  subst h1 h2 h3
  by_cases h4 : cs.length = ds.length
  case neg =>
    have c4 : ¬ (cs.length : Int) = (ds.length : Int) := by omega
    have hn : ¬ SameL cs ds := fun h => h4 h.1
    simp -implicitDefEqProofs only [Tryd.f25,Wa,Wb,Wc,Wd,We,Wf,Wg,Wh,Wi,Wj,Wk,Wl,Wm,Wn,Zo,Zp,evalT,Nat.reduceLT,Nat.reduceEqDiff,if_true,if_false,reduceIte,Ys,ofVal,ofCell,argT,resT,setT,Y0,Int.reduceEq,Int.reduceLT,Int.reduceLE,Int.reduceNeg,mb,Nat.reduceBEq,tys,stb,tys2,empty_mk,vBin_sneq,len_C hc,len_C hd,c4]
    simp [oneOr, sealDepth, sealV_bool, hn]
  have c4 : (cs.length : Int) = (ds.length : Int) := by omega
  have hdc : decide (nm = nm ∧ pb = pb ∧ many = many ∧ SameL cs ds) = decide (SameL cs ds) := by simp
  rw [hdc]
  simp -implicitDefEqProofs only [Tryd.f25,Wa,Wb,Wc,Wd,We,Wf,Wg,Wh,Wi,Wj,Wk,Wl,Wm,Wn,Zo,Zp,evalT,Nat.reduceLT,Nat.reduceEqDiff,if_true,if_false,reduceIte,Ys,ofVal,ofCell,argT,resT,setT,Y0,Int.reduceEq,Int.reduceLT,Int.reduceLE,Int.reduceNeg,mb,Nat.reduceBEq,tys,stb,tys2,empty_mk,vBin_sneq,len_C hc,len_C hd,c4]
  refine loop_rule (fun m T D σ => D = [] ∧ T 2 = .ptr 0 0 ∧ T 3 = .ptr 1 0 ∧ ∃ (L : List AObj) (ts : List Nat) (i : Nat), σ = ⟨L, ts⟩ ∧ L[0]? = some (.cells [.str nm, .bool pb, .int .i64 many, cv] 29) ∧
    L[1]? = some (.cells [.str nm, .bool pb, .int .i64 many, dv] 29) ∧ T 5 = .int .i64 i ∧ i ≤ cs.length ∧ m = cs.length - i ∧ ∀ j, j < i → SameC (cs.getD j Col.none) (ds.getD j Col.none)) ?_ _ _ _ _
    ⟨rfl, rfl, rfl, _, _, 0, rfl, rfl, rfl, rfl, by omega, rfl, fun j h => by omega⟩
  rintro m T D σ ⟨rfl, t2, t3, L, ts, i, rfl, l0, l1, t5, hi, rfl, hsame⟩
  refine G_start ?_
  by_cases hlt : i < cs.length
  · have hlt2 : i < ds.length := by omega
    have c1 : (i : Int) < (ds.length : Int) := by omega
    have e1 : IntKind.i64.wrap ((i : Int) + 1) = ((i + 1 : Nat) : Int) := by rw [wrap_i64 (by omega) (by omega)]; omega
    have hwc := ok.at hlt
    have hwd := ok2.at hlt2
    have hws := hw i hlt
    have hdec : SameL cs ds → SameC (cs.getD i Col.none) (ds.getD i Col.none) := fun h => h.2 i hlt
    simp -implicitDefEqProofs only [Wa,Wb,Wc,Wd,We,Wf,Wg,Wh,Wi,Wj,Wk,Wl,Wm,Wn,Zo,Zp,evalT,Nat.reduceLT,Nat.reduceEqDiff,if_true,if_false,reduceIte,Ys,ofVal,ofCell,argT,resT,setT,Y0,Int.reduceEq,Int.reduceLT,Int.reduceLE,Int.reduceNeg,mb,Nat.reduceBEq,tys,stb,tys2,t2,t3,t5,c1,c4,len_C hc,len_C hd,YA,l0,l1]
    refine same_region hc hd ok ok2 hlt hlt2 l0 l1 t2 t3 t5 ?_
    clear t2 t3 t5 T
    intro T t2 t3 t5 t6 t7
    unfold oC
    generalize hcc : cs.getD i Col.none = c at hwc hws hdec ⊢
    generalize hdd : ds.getD i Col.none = d at hwd hdec ⊢
    by_cases h5 : c.name = d.name
    case neg =>
      have hn : ¬ SameL cs ds := fun h => h5 (hdec h).1
      simp -implicitDefEqProofs only [Wa,Wb,Wc,Wd,We,Wf,Wg,Wh,Wi,Wj,Wk,Wl,Wm,Wn,Zo,Zp,evalT,Nat.reduceLT,Nat.reduceEqDiff,if_true,if_false,reduceIte,Ys,ofVal,ofCell,argT,resT,setT,Y0,Int.reduceEq,Int.reduceLT,Int.reduceLE,Int.reduceNeg,mb,Nat.reduceBEq,tys,stb,tys2,t2,t3,t5,t6,t7,end2_0,end2_1,vBin_sneq,h5]
      exact seal_b _ _ _ (by simp [hn])
    by_cases h6 : c.lo = d.lo
    case neg =>
      have hn : ¬ SameL cs ds := fun h => h6 (hdec h).2.1
      simp -implicitDefEqProofs only [Wa,Wb,Wc,Wd,We,Wf,Wg,Wh,Wi,Wj,Wk,Wl,Wm,Wn,Zo,Zp,evalT,Nat.reduceLT,Nat.reduceEqDiff,if_true,if_false,reduceIte,Ys,ofVal,ofCell,argT,resT,setT,Y0,Int.reduceEq,Int.reduceLT,Int.reduceLE,Int.reduceNeg,mb,Nat.reduceBEq,tys,stb,tys2,t2,t3,t5,t6,t7,end2_0,end2_1,vBin_sneq,h5,h6]
      exact seal_b _ _ _ (by simp [hn])
    by_cases h7 : c.hi = d.hi
    case neg =>
      have hn : ¬ SameL cs ds := fun h => h7 (hdec h).2.2.1
      simp -implicitDefEqProofs only [Wa,Wb,Wc,Wd,We,Wf,Wg,Wh,Wi,Wj,Wk,Wl,Wm,Wn,Zo,Zp,evalT,Nat.reduceLT,Nat.reduceEqDiff,if_true,if_false,reduceIte,Ys,ofVal,ofCell,argT,resT,setT,Y0,Int.reduceEq,Int.reduceLT,Int.reduceLE,Int.reduceNeg,mb,Nat.reduceBEq,tys,stb,tys2,t2,t3,t5,t6,t7,end2_0,end2_1,vBin_sneq,h5,h6,h7]
      exact seal_b _ _ _ (by simp [hn])
    by_cases h8 : c.ws.length = d.ws.length
    case neg =>
      have c8 : ¬ (c.ws.length : Int) = (d.ws.length : Int) := by omega
      have hn : ¬ SameL cs ds := fun h => h8 (by rw [(hdec h).2.2.2])
      simp -implicitDefEqProofs only [Wa,Wb,Wc,Wd,We,Wf,Wg,Wh,Wi,Wj,Wk,Wl,Wm,Wn,Zo,Zp,evalT,Nat.reduceLT,Nat.reduceEqDiff,if_true,if_false,reduceIte,Ys,ofVal,ofCell,argT,resT,setT,Y0,Int.reduceEq,Int.reduceLT,Int.reduceLE,Int.reduceNeg,mb,Nat.reduceBEq,tys,stb,tys2,t2,t3,t5,t6,t7,end2_0,end2_1,vBin_sneq,h5,h6,h7,len_W hwc,len_W hwd,c8]
      exact seal_b _ _ _ (by simp [hn])
    have c8 : (c.ws.length : Int) = (d.ws.length : Int) := by omega
    simp -implicitDefEqProofs only [Wa,Wb,Wc,Wd,We,Wf,Wg,Wh,Wi,Wj,Wk,Wl,Wm,Wn,Zo,Zp,evalT,Nat.reduceLT,Nat.reduceEqDiff,if_true,if_false,reduceIte,Ys,ofVal,ofCell,argT,resT,setT,Y0,Int.reduceEq,Int.reduceLT,Int.reduceLE,Int.reduceNeg,mb,Nat.reduceBEq,tys,stb,tys2,t2,t3,t5,t6,t7,end2_0,end2_1,vBin_sneq,h5,h6,h7,len_W hwc,len_W hwd,c8]
    refine loop_rule (fun m T D σ => D = [] ∧ T 2 = .ptr 0 0 ∧ T 3 = .ptr 1 0 ∧ T 5 = .int .i64 i ∧ T 6 = .ptr L.length 0 ∧ T 7 = .ptr (L.length + 1) 0 ∧ σ = ⟨L ++ [.cells [.str d.name, .int .i64 d.lo, .int .i64 d.hi, c.w] 44, .cells [.str d.name, .int .i64 d.lo, .int .i64 d.hi, d.w] 44], ts⟩ ∧
      ∃ k : Nat, T 8 = .int .i64 k ∧ k ≤ c.ws.length ∧ m = c.ws.length - k ∧ ∀ j, j < k → c.ws.getD j [] = d.ws.getD j []) ?_ _ _ _ _ ⟨rfl, t2, t3, t5, t6, t7, rfl, 0, rfl, by omega, rfl, fun j h => by omega⟩
    clear t2 t3 t5 t6 t7 T
    rintro m T D σ ⟨rfl, t2, t3, t5, t6, t7, rfl, k, t8, hk, rfl, hsw⟩
    refine G_start ?_
    by_cases hk2 : k < c.ws.length
    · have k1 : (k : Int) < (d.ws.length : Int) := by omega
      have e2 : IntKind.i64.wrap ((k : Int) + 1) = ((k + 1 : Nat) : Int) := by rw [wrap_i64 (by omega) (by omega)]; omega
      have hx := idx_W hwc hk2
      have hy := idx_W hwd (show k < d.ws.length by omega)
      by_cases h9 : c.ws.getD k [] = d.ws.getD k []
      · simp -implicitDefEqProofs only [Wa,Wb,Wc,Wd,We,Wf,Wg,Wh,Wi,Wj,Wk,Wl,Wm,Wn,Zo,Zp,evalT,Nat.reduceLT,Nat.reduceEqDiff,if_true,if_false,reduceIte,Ys,ofVal,ofCell,argT,resT,setT,Y0,Int.reduceEq,Int.reduceLT,Int.reduceLE,Int.reduceNeg,mb,Nat.reduceBEq,tys,stb,tys2,t2,t3,t5,t6,t7,t8,end2_0,end2_1,vBin_sneq,len_W hwc,len_W hwd,c8,k1,e2,hx,hy,load_hd,h9]
        exact ⟨by kernel_rfl, c.ws.length - (k + 1), by omega, k + 1, rfl, by omega, rfl, fun j hj => by
          rcases Nat.lt_or_ge j k with h2 | h2
          · exact hsw j h2
          · have : j = k := by omega
            subst this; exact h9⟩
      · have hn : ¬ SameL cs ds := fun h => h9 (by rw [(hdec h).2.2.2])
        simp -implicitDefEqProofs only [Wa,Wb,Wc,Wd,We,Wf,Wg,Wh,Wi,Wj,Wk,Wl,Wm,Wn,Zo,Zp,evalT,Nat.reduceLT,Nat.reduceEqDiff,if_true,if_false,reduceIte,Ys,ofVal,ofCell,argT,resT,setT,Y0,Int.reduceEq,Int.reduceLT,Int.reduceLE,Int.reduceNeg,mb,Nat.reduceBEq,tys,stb,tys2,t2,t3,t5,t6,t7,t8,end2_0,end2_1,vBin_sneq,len_W hwc,len_W hwd,c8,k1,e2,hx,hy,load_hd,h9]
        exact ⟨by kernel_rfl, seal_b _ _ _ (by simp [hn])⟩
    · have hk3 : k = c.ws.length := by omega
      subst hk3
      have k1 : ¬ (d.ws.length : Int) < (d.ws.length : Int) := by omega
      have hS : SameC c d := ⟨h5, h6, h7, ext_ws h8 hsw⟩
      simp -implicitDefEqProofs only [Wa,Wb,Wc,Wd,We,Wf,Wg,Wh,Wi,Wj,Wk,Wl,Wm,Wn,Zo,Zp,evalT,Nat.reduceLT,Nat.reduceEqDiff,if_true,if_false,reduceIte,Ys,ofVal,ofCell,argT,resT,setT,Y0,Int.reduceEq,Int.reduceLT,Int.reduceLE,Int.reduceNeg,mb,Nat.reduceBEq,tys,stb,tys2,t2,t3,t5,t6,t7,t8,end2_0,end2_1,vBin_sneq,len_W hwc,len_W hwd,c8,k1,e1]
      refine ⟨cs.length - (i + 1), by omega, _, _, i + 1, rfl, get_app l0 _, get_app l1 _, rfl, by omega, rfl, fun j hj => ?_⟩
      rcases Nat.lt_or_ge j i with h2 | h2
      · exact hsame j h2
      · have : j = i := by omega
        subst this
        rw [hcc, hdd]; exact hS
  · have hi2 : i = cs.length := by omega
    subst hi2
    have c1 : ¬ (ds.length : Int) < (ds.length : Int) := by omega
    have hS : SameL cs ds := ⟨h4, hsame⟩
    simp -implicitDefEqProofs only [Wa,Wb,Wc,Wd,We,Wf,Wg,Wh,Wi,Wj,Wk,Wl,Wm,Wn,Zo,Zp,evalT,Nat.reduceLT,Nat.reduceEqDiff,if_true,if_false,reduceIte,Ys,ofVal,ofCell,argT,resT,setT,Y0,Int.reduceEq,Int.reduceLT,Int.reduceLE,Int.reduceNeg,mb,Nat.reduceBEq,tys,stb,tys2,t2,t3,t5,c1,c4,len_C hc,len_C hd,YA,l0,l1]
    exact seal_b _ _ _ (by simp [hS])
end Go.Proofs.YtbikmhpobflfeaaDoor
namespace Go.Proofs.YtbikmhpobflfeaaDoor
open Go.Ab
set_option maxHeartbeats 4000000
set_option maxRecDepth 100000
set_option linter.unusedSimpArgs false
set_option linter.unusedVariables false
set_option linter.unusedSectionVars false
theorem at59 : env.P.funcs[59]? = some Tryd.f59 := by kernel_rfl
theorem at62 : env.P.funcs[62]? = some Tryd.f62 := by kernel_rfl
theorem at26 : env.P.funcs[26]? = some Tryd.f26 := by kernel_rfl
theorem row_24 : rowO env 24 0 [] = some (.row [] 0 .full) := by kernel_rfl
theorem seal_row_strs (h : List AObj) (d : Nat) (ws : List (List UInt8)) (c : RCap) : sealV h (d + 2) (.row (ws.map V.str) ws.length c) = some (.row (ws.map V.str) ws.length .unk) := by
  rw [sealV_row, seal_strs]; rfl
theorem clone_call (w : V) (ws : List (List UInt8)) (h : IsW w ws) (hl : ws.length ≤ 1000) (σ : S) : callFn env (ev env) 59 [w] σ = some (w, σ) := by
  refine callFn_pure rfl rfl (by simp [closed_W h]) at59 rfl (by simp [Tryd.f59]) (by simp [Tryd.f59]) (G_start ?_) σ
  obtain ⟨cap, ts', hA, _⟩ := app_W h hl [] []
  rcases h with ⟨rfl, rfl⟩ | rfl
  · simp -implicitDefEqProofs only [Tryd.f59,Wa,Wb,Wc,Wd,We,Wf,Wg,Wh,Wi,Wj,Wk,Wl,Wm,Wn,Zo,Zp,evalT,Nat.reduceLT,Nat.reduceEqDiff,if_true,if_false,reduceIte,Ys,ofVal,ofCell,argT,resT,setT,Y0,Int.reduceEq,Int.reduceLT,Int.reduceLE,Int.reduceNeg,mb,Nat.reduceBEq,tys,stb,tys2,empty_mk,binO_nil_nil u24]
    rfl
  · simp -implicitDefEqProofs only [Tryd.f59,Wa,Wb,Wc,Wd,We,Wf,Wg,Wh,Wi,Wj,Wk,Wl,Wm,Wn,Zo,Zp,evalT,Nat.reduceLT,Nat.reduceEqDiff,if_true,if_false,reduceIte,Ys,ofVal,ofCell,argT,resT,setT,Y0,Int.reduceEq,Int.reduceLT,Int.reduceLE,Int.reduceNeg,mb,Nat.reduceBEq,tys,stb,tys2,empty_mk,binO_row_nil u24,opT_rowO,row_24,hA]
    simp only [oneOr, sealDepth, seal_row_strs]
theorem build_m {T : Tm} (L : List AObj) (ts : List Nat) : opT env true T ⟨L, ts⟩ (.buildSlice 27 0 #[]) = some (.hsl L.length 0 0 0 .exact, ⟨L ++ [.cells [] 44], ts⟩) := by
  unfold opT
  simp only [apure, aread, astate, partsO, el27, tys2, Option.bind_some]
  simp [vFill, V.cells, S.push, env]
theorem app_m (L : List AObj) (ts : List Nat) (cs : List Col) (hl : cs.length ≤ 1000) (hn : cs.length ≠ 0) (c : RCap) : appO env true ⟨L ++ [.cells [] 44], ts⟩ 27 27 (.hsl L.length 0 0 0 .exact) (.row (flatC cs) cs.length c) =
    some (.hsl (L.length + 1) 0 cs.length cs.length (.grow 4), ⟨L ++ [.cells [] 44, .cells (flatC cs) 44], ts⟩) := by
  have hnew : ∀ h, vCells h 4 cs.length (.row (flatC cs) cs.length c) = some (flatC cs) := fun h => by simp [vCells, flatC_len, List.take_of_length_le (Nat.le_of_eq (flatC_len cs))]
  have hl2 : cs.length * 56 ≤ lim ∧ cs.length ≤ lim := by have h : lim = 2 ^ 40 := rfl; rw [h]; omega
  unfold appO
  simp only [el27, tys2, by44, zn44, vLen, hnew, Option.bind_some, if_true]
  simp [aappend, hn, hl2, vCells, S.push]
theorem app_m0 (L : List AObj) (ts : List Nat) (c : RCap) : appO env true ⟨L ++ [.cells [] 44], ts⟩ 27 27 (.hsl L.length 0 0 0 .exact) (.row [] 0 c) = some (.hsl L.length 0 0 0 .exact, ⟨L ++ [.cells [] 44], ts⟩) := by
  unfold appO
  simp only [el27, tys2, by44, zn44, vLen, vCells, Option.bind_some, if_true]
  simp [aappend]
theorem mb62 : env.mutb 62 3 = true := rfl
theorem flatC_w {cs : List Col} {i : Nat} (hi : i < cs.length) : (flatC cs)[i * 4 + 3]? = some (cs.getD i Col.none).w := by
  have h := flatC_drop cs i
  rw [flatC_at hi] at h
  have h2 : ((flatC cs).drop (i * 4))[3]? = some (cs.getD i Col.none).w := by rw [h]; rfl
  rw [List.getElem?_drop] at h2
  exact h2
theorem load4_1 (x : AObj) (a b c d : V) (t : TypeId) (X : List AObj) : loadCellsV (x :: .cells [a, b, c, d] t :: X) 4 (.ptr 1 0) = some [a, b, c, d] := load4_ptr rfl
theorem load4_00 (a b c d : V) (t : TypeId) (X : List AObj) : loadCellsV (.cells [a, b, c, d] t :: X) 4 (.ptr 0 0) = some [a, b, c, d] := load4_ptr rfl
end Go.Proofs.YtbikmhpobflfeaaDoor
namespace Go.Proofs.YtbikmhpobflfeaaDoor
open Go.Ab
set_option maxHeartbeats 4000000
set_option maxRecDepth 100000
set_option linter.unusedSimpArgs false
set_option linter.unusedVariables false
set_option linter.unusedSectionVars false
theorem getD_copy {cs : List Col} {i : Nat} (hi : i < cs.length) : (cs.map copyC).getD i Col.none = copyC (cs.getD i Col.none) := by
  simp [List.getD, hi]
theorem isC_copy (cs : List Col) : IsC (copyV cs) (cs.map copyC) := by
  unfold copyV
  by_cases h : cs = []
  · rw [if_pos h, h]; exact .inl ⟨rfl, rfl⟩
  · rw [if_neg h]; exact .inr (by rw [List.length_map])
theorem okC_copy (cs : List Col) : OkC (cs.map copyC) := fun c hc => by
  obtain ⟨a, _, rfl⟩ := List.mem_map.1 hc
  exact .inr rfl
theorem same_copy (cs : List Col) : SameL cs (cs.map copyC) := ⟨by simp, fun i hi => by rw [getD_copy hi]; exact ⟨rfl, rfl, rfl, rfl⟩⟩
end Go.Proofs.YtbikmhpobflfeaaDoor
