/- Proved here: the checks of schemas. Conditions: those of each theorem; no statement of the seat is proved in this text. -/
import Derived.Test.YtbikmhpobflfeaaDoorSnC
namespace Go.Proofs.YtbikmhpobflfeaaDoor
open Go.Ab
set_option maxHeartbeats 4000000
set_option maxRecDepth 100000
set_option linter.unusedSimpArgs false
set_option linter.unusedVariables false
set_option linter.unusedSectionVars false
theorem at88 : env.P.funcs[88]? = some Tryd.f88 := by kernel_rfl
theorem at89 : env.P.funcs[89]? = some Tryd.f89 := by kernel_rfl
theorem at90 : env.P.funcs[90]? = some Tryd.f90 := by kernel_rfl
theorem at91 : env.P.funcs[91]? = some Tryd.f91 := by kernel_rfl
theorem at92 : env.P.funcs[92]? = some Tryd.f92 := by kernel_rfl
theorem at93 : env.P.funcs[93]? = some Tryd.f93 := by kernel_rfl
theorem at60 : env.P.funcs[60]? = some Tryd.f60 := by kernel_rfl
theorem tys3 : sz env 30 = some 1 ∧ sz env 32 = some 1 ∧ sz env 76 = some 1 ∧ env.P.underlying 74 = some (.slice 76) ∧ (∀ h p, aload env h 30 p = (loadCellsV h 1 p).bind (·[0]?)) ∧ (∀ h p, aload env h 32 p = (loadCellsV h 1 p).bind (·[0]?)) ∧ (∀ h p, aload env h 76 p = (loadCellsV h 1 p).bind (·[0]?)) := by
  have g30 : aggT env 30 = some false := by kernel_rfl
  have g32 : aggT env 32 = some false := by kernel_rfl
  have g76 : aggT env 76 = some false := by kernel_rfl
  exact ⟨by kernel_rfl, by kernel_rfl, by kernel_rfl, by kernel_rfl, fun _ _ => aload_one g30, fun _ _ => aload_one g32, fun _ _ => aload_one g76⟩
theorem alone_call (g : FuncId) (e : Int) (L : List AObj) (ts : List Nat) :
    callFn env (ev env) 88 [.func g [] [], .int .i64 e] ⟨L, ts⟩ = some (.func 89 [] [.ptr L.length 0, .ptr (L.length + 1) 0], ⟨L ++ [.cells [.func g [] []] 30, .cells [.int .i64 e] 32], ts⟩) := by
  refine callFn_eq rfl rfl at88 rfl (by simp [Tryd.f88]) (by simp [Tryd.f88]) ?_
  refine G_start ?_
  simp -implicitDefEqProofs only [Tryd.f88,Wa,Wb,Wc,Wd,We,Wf,Wg,Wh,Wi,Wj,Wk,Wl,Wm,Wn,Zo,Zp,evalT,Nat.reduceLT,Nat.reduceEqDiff,if_true,if_false,reduceIte,Ys,ofVal,ofCell,argT,resT,setT,Y0,Int.reduceEq,Int.reduceLT,Int.reduceLE,Int.reduceNeg,mb,Nat.reduceBEq,tys,stb,tys2,tys3,cells_func,Y6,len_snoc]
  simp only [oneOr, List.append_assoc, List.cons_append, List.nil_append, and_self]
def Says (g : FuncId) (sc : List V) (b : Bool) : Prop := ∀ L ts, callFn env (ev env) g [.agg sc] ⟨L, ts⟩ = some (.bool b, ⟨L ++ [.cells sc 29], ts⟩)
theorem said_call (g : FuncId) (e : Int) (a b c d : V) (r : Bool) (hg : Says g [a, b, c, d] r) (L : List AObj) (ts : List Nat) (p q : Nat) (hp : L[p]? = some (.cells [.func g [] []] 30)) (hq : L[q]? = some (.cells [.int .i64 e] 32)) :
    callFn env (ev env) 89 [.agg [a, b, c, d], .ptr p 0, .ptr q 0] ⟨L, ts⟩ = some (.tup [.int .i64 (if r = true then e else 0), .int .i64 (-1)], ⟨L ++ [.cells [a, b, c, d] 29, .cells [a, b, c, d] 29], ts⟩) := by
  refine callFn_eq rfl rfl at89 rfl (by simp [Tryd.f89]) (by simp [Tryd.f89]) ?_
  refine G_start ?_
  cases r <;>
  · simp -implicitDefEqProofs only [Tryd.f89,Wa,Wb,Wc,Wd,We,Wf,Wg,Wh,Wi,Wj,Wk,Wl,Wm,Wn,Zo,Zp,evalT,Nat.reduceLT,Nat.reduceEqDiff,if_true,if_false,reduceIte,Ys,ofVal,ofCell,argT,resT,setT,Y0,Int.reduceEq,Int.reduceLT,Int.reduceLE,Int.reduceNeg,mb,Nat.reduceBEq,tys,stb,tys2,tys3,YW,load_one (get_app hp _),load_one (get_app (get_app hp _) _),load_one (get_app (get_app hq _) _),load_one (get_app hq _),get_app hp,get_app hq,agg29,load4_end,hg _ _]
    simp [oneOr]
theorem ck90 (nm : List UInt8) (hn : nm.length < 2 ^ 63) (b c d : V) : Says 90 [.str nm, b, c, d] (!decide (IsName nm)) := by
  intro L ts
  refine callFn_eq rfl rfl at90 rfl (by simp [Tryd.f90]) (by simp [Tryd.f90]) ?_
  refine G_start ?_
  by_cases h : IsName nm <;>
  · simp -implicitDefEqProofs only [Tryd.f90,Wa,Wb,Wc,Wd,We,Wf,Wg,Wh,Wi,Wj,Wk,Wl,Wm,Wn,Zo,Zp,evalT,Nat.reduceLT,Nat.reduceEqDiff,if_true,if_false,reduceIte,Ys,ofVal,ofCell,argT,resT,setT,Y0,Int.reduceEq,Int.reduceLT,Int.reduceLE,Int.reduceNeg,mb,Nat.reduceBEq,tys,stb,tys2,tys3,YW,heap_end,name_call nm hn,h,Bool.not_true,Bool.not_false]
    simp [oneOr]
theorem ck92 (a b c : V) (cv : V) (cs : List Col) (hc : IsC cv cs) : Says 92 [a, b, c, cv] (decide (cs.length = 0)) := by
  intro L ts
  refine callFn_eq rfl rfl at92 rfl (by simp [Tryd.f92]) (by simp [Tryd.f92]) ?_
  refine G_start ?_
  by_cases h : (cs.length : Int) = 0
  · have h' : cs.length = 0 := by omega
    simp -implicitDefEqProofs only [Tryd.f92,Wa,Wb,Wc,Wd,We,Wf,Wg,Wh,Wi,Wj,Wk,Wl,Wm,Wn,Zo,Zp,evalT,Nat.reduceLT,Nat.reduceEqDiff,if_true,if_false,reduceIte,Ys,ofVal,ofCell,argT,resT,setT,Y0,Int.reduceEq,Int.reduceLT,Int.reduceLE,Int.reduceNeg,mb,Nat.reduceBEq,tys,stb,tys2,tys3,YW,heap_end,len_C hc,h]
    simp [oneOr, h']
  · have h' : ¬ cs.length = 0 := by omega
    simp -implicitDefEqProofs only [Tryd.f92,Wa,Wb,Wc,Wd,We,Wf,Wg,Wh,Wi,Wj,Wk,Wl,Wm,Wn,Zo,Zp,evalT,Nat.reduceLT,Nat.reduceEqDiff,if_true,if_false,reduceIte,Ys,ofVal,ofCell,argT,resT,setT,Y0,Int.reduceEq,Int.reduceLT,Int.reduceLE,Int.reduceNeg,mb,Nat.reduceBEq,tys,stb,tys2,tys3,YW,heap_end,len_C hc,h]
    simp [oneOr, h']
theorem ck93 (a b c : V) (cv : V) (cs : List Col) (hc : IsC cv cs) : Says 93 [a, b, c, cv] (decide (16 < cs.length)) := by
  intro L ts
  refine callFn_eq rfl rfl at93 rfl (by simp [Tryd.f93]) (by simp [Tryd.f93]) ?_
  refine G_start ?_
  by_cases h : (16 : Int) < (cs.length : Int)
  · have h' : 16 < cs.length := by omega
    simp -implicitDefEqProofs only [Tryd.f93,Wa,Wb,Wc,Wd,We,Wf,Wg,Wh,Wi,Wj,Wk,Wl,Wm,Wn,Zo,Zp,evalT,Nat.reduceLT,Nat.reduceEqDiff,if_true,if_false,reduceIte,Ys,ofVal,ofCell,argT,resT,setT,Y0,Int.reduceEq,Int.reduceLT,Int.reduceLE,Int.reduceNeg,mb,Nat.reduceBEq,tys,stb,tys2,tys3,YW,heap_end,len_C hc,h]
    simp [oneOr, h']
  · have h' : ¬ 16 < cs.length := by omega
    simp -implicitDefEqProofs only [Tryd.f93,Wa,Wb,Wc,Wd,We,Wf,Wg,Wh,Wi,Wj,Wk,Wl,Wm,Wn,Zo,Zp,evalT,Nat.reduceLT,Nat.reduceEqDiff,if_true,if_false,reduceIte,Ys,ofVal,ofCell,argT,resT,setT,Y0,Int.reduceEq,Int.reduceLT,Int.reduceLE,Int.reduceNeg,mb,Nat.reduceBEq,tys,stb,tys2,tys3,YW,heap_end,len_C hc,h]
    simp [oneOr, h']
theorem ck91 (a d : V) (pb : Bool) (many : Int) : Says 91 [a, .bool pb, .int .i64 many, d] (decide ((pb = true ∧ many ≠ 0) ∨ (pb = false ∧ (many < 1 ∨ 50 < many)))) := by
  intro L ts
  refine callFn_eq rfl rfl at91 rfl (by simp [Tryd.f91]) (by simp [Tryd.f91]) ?_
  refine G_start ?_
  cases pb with
  | true =>
    by_cases h : many = 0 <;>
    · simp -implicitDefEqProofs only [Tryd.f91,Wa,Wb,Wc,Wd,We,Wf,Wg,Wh,Wi,Wj,Wk,Wl,Wm,Wn,Zo,Zp,evalT,Nat.reduceLT,Nat.reduceEqDiff,if_true,if_false,reduceIte,Ys,ofVal,ofCell,argT,resT,setT,Y0,Int.reduceEq,Int.reduceLT,Int.reduceLE,Int.reduceNeg,mb,Nat.reduceBEq,tys,stb,tys2,tys3,YW,heap_end,h]
      simp [oneOr, h]
  | false =>
    by_cases h : many < 1
    · simp -implicitDefEqProofs only [Tryd.f91,Wa,Wb,Wc,Wd,We,Wf,Wg,Wh,Wi,Wj,Wk,Wl,Wm,Wn,Zo,Zp,evalT,Nat.reduceLT,Nat.reduceEqDiff,if_true,if_false,reduceIte,Ys,ofVal,ofCell,argT,resT,setT,Y0,Int.reduceEq,Int.reduceLT,Int.reduceLE,Int.reduceNeg,mb,Nat.reduceBEq,tys,stb,tys2,tys3,YW,heap_end,h]
      simp [oneOr, h]
    · by_cases h2 : 50 < many <;>
      · simp -implicitDefEqProofs only [Tryd.f91,Wa,Wb,Wc,Wd,We,Wf,Wg,Wh,Wi,Wj,Wk,Wl,Wm,Wn,Zo,Zp,evalT,Nat.reduceLT,Nat.reduceEqDiff,if_true,if_false,reduceIte,Ys,ofVal,ofCell,argT,resT,setT,Y0,Int.reduceEq,Int.reduceLT,Int.reduceLE,Int.reduceNeg,mb,Nat.reduceBEq,tys,stb,tys2,tys3,YW,heap_end,h,h2]
        simp [oneOr, h, h2]
end Go.Proofs.YtbikmhpobflfeaaDoor
namespace Go.Proofs.YtbikmhpobflfeaaDoor
open Go.Ab
set_option maxHeartbeats 4000000
set_option maxRecDepth 100000
set_option linter.unusedSimpArgs false
set_option linter.unusedVariables false
set_option linter.unusedSectionVars false
theorem at94 : env.P.funcs[94]? = some Tryd.f94 := by kernel_rfl
theorem ck94 (nm : List UInt8) (pb : Bool) (many : Int) (cv : V) (cs : List Col) (hc : IsC cv cs) (ok : OkC cs) (hl : cs.length ≤ 1000) (hs : ∀ i, i < cs.length → Short (cs.getD i Col.none)) (L : List AObj) (ts : List Nat) :
    ∃ X, callFn env (ev env) 94 [.agg [.str nm, .bool pb, .int .i64 many, cv]] ⟨L, ts⟩ = some (.tup [.int .i64 (firstE cs cs.length 0).1, .int .i64 (firstE cs cs.length 0).2], ⟨L ++ X, ts⟩) := by
  suffices h : ∃ v σ', callFn env (ev env) 94 [.agg [.str nm, .bool pb, .int .i64 many, cv]] ⟨L, ts⟩ = some (v, σ') ∧ (v = .tup [.int .i64 (firstE cs cs.length 0).1, .int .i64 (firstE cs cs.length 0).2] ∧ ∃ X, σ' = ⟨L ++ X, ts⟩) by
    obtain ⟨v, σ', h1, rfl, X, rfl⟩ := h
    exact ⟨X, h1⟩
  refine callFn_any rfl rfl at94 rfl (by simp [Tryd.f94]) (by simp [Tryd.f94]) (G_start ?_)
  simp -implicitDefEqProofs only [Tryd.f94,Wa,Wb,Wc,Wd,We,Wf,Wg,Wh,Wi,Wj,Wk,Wl,Wm,Wn,Zo,Zp,evalT,Nat.reduceLT,Nat.reduceEqDiff,if_true,if_false,reduceIte,Ys,ofVal,ofCell,argT,resT,setT,Y0,Int.reduceEq,Int.reduceLT,Int.reduceLE,Int.reduceNeg,mb,Nat.reduceBEq,tys,stb,tys2,tys3,YW,heap_end,len_C hc]
  refine loop_rule (fun m T D σ => D = [] ∧ σ = ⟨L ++ [.cells [.str nm, .bool pb, .int .i64 many, cv] 29], ts⟩ ∧ T 1 = .ptr L.length 0 ∧ T 8 = .int .i64 cs.length ∧ ∃ i : Nat, T 9 = .int .i64 i ∧ i ≤ cs.length ∧ m = cs.length - i ∧ firstE cs cs.length 0 = firstE cs (cs.length - i) i) ?_ _ _ _ _ ⟨rfl, rfl, rfl, rfl, 0, rfl, by omega, rfl, rfl⟩
  rintro m T D σ ⟨rfl, rfl, t1, t8, i, t9, hi, rfl, hf⟩
  refine G_start ?_
  by_cases hlt : i < cs.length
  · have c1 : (i : Int) < (cs.length : Int) := by omega
    have e1 : IntKind.i64.wrap ((i : Int) + 1) = ((i + 1 : Nat) : Int) := by rw [wrap_i64 (by omega) (by omega)]; omega
    obtain ⟨q, hq⟩ : ∃ q, cs.length - i = q + 1 := ⟨cs.length - i - 1, by omega⟩
    have hq2 : q = cs.length - (i + 1) := by omega
    have hstep : firstE cs (cs.length - i) i = if colX cs i = 0 then firstE cs q (i + 1) else (colX cs i, (i : Int)) := by rw [hq]; rfl
    rw [hstep] at hf
    by_cases hz : colX cs i = 0
    · rw [if_pos hz, hq2] at hf
      simp -implicitDefEqProofs only [Wa,Wb,Wc,Wd,We,Wf,Wg,Wh,Wi,Wj,Wk,Wl,Wm,Wn,Zo,Zp,evalT,Nat.reduceLT,Nat.reduceEqDiff,if_true,if_false,reduceIte,Ys,ofVal,ofCell,argT,resT,setT,Y0,Int.reduceEq,Int.reduceLT,Int.reduceLE,Int.reduceNeg,mb,Nat.reduceBEq,tys,stb,tys2,tys3,t1,t8,t9,c1,e1,heap_end,column_call cv cs hc ok hl i hlt (hs i hlt),hz]
      exact ⟨cs.length - (i + 1), by omega, i + 1, rfl, by omega, rfl, hf⟩
    · rw [if_neg hz] at hf
      simp -implicitDefEqProofs only [Wa,Wb,Wc,Wd,We,Wf,Wg,Wh,Wi,Wj,Wk,Wl,Wm,Wn,Zo,Zp,evalT,Nat.reduceLT,Nat.reduceEqDiff,if_true,if_false,reduceIte,Ys,ofVal,ofCell,argT,resT,setT,Y0,Int.reduceEq,Int.reduceLT,Int.reduceLE,Int.reduceNeg,mb,Nat.reduceBEq,tys,stb,tys2,tys3,t1,t8,t9,c1,e1,heap_end,column_call cv cs hc ok hl i hlt (hs i hlt),hz]
      exact ⟨by rw [hf]; rfl, _, rfl⟩
  · have hi2 : i = cs.length := by omega
    subst hi2
    have c1 : ¬ (cs.length : Int) < (cs.length : Int) := by omega
    rw [Nat.sub_self] at hf
    simp -implicitDefEqProofs only [Wa,Wb,Wc,Wd,We,Wf,Wg,Wh,Wi,Wj,Wk,Wl,Wm,Wn,Zo,Zp,evalT,Nat.reduceLT,Nat.reduceEqDiff,if_true,if_false,reduceIte,Ys,ofVal,ofCell,argT,resT,setT,Y0,Int.reduceEq,Int.reduceLT,Int.reduceLE,Int.reduceNeg,mb,Nat.reduceBEq,tys,stb,t1,t8,t9,c1]
    exact ⟨by rw [hf]; rfl, _, rfl⟩
def alone (g : FuncId) (n : Nat) : V := .func 89 [] [.ptr n 0, .ptr (n + 1) 0]
def checksV : V := .row [alone 90 1, alone 91 3, alone 92 5, alone 93 7, .func 94 [] []] 5 .full
def checksH (o : AObj) : List AObj := [o, .cells [.func 90 [] []] 30, .cells [.int .i64 19] 32, .cells [.func 91 [] []] 30, .cells [.int .i64 2] 32, .cells [.func 92 [] []] 30, .cells [.int .i64 3] 32, .cells [.func 93 [] []] 30, .cells [.int .i64 4] 32]
theorem row_checks : rowO env 74 5 [(0, .func 89 [] [.ptr 1 0, .ptr 2 0]), (1, .func 89 [] [.ptr 3 0, .ptr 4 0]), (2, .func 89 [] [.ptr 5 0, .ptr 6 0]), (3, .func 89 [] [.ptr 7 0, .ptr 8 0]), (4, .func 94 [] [])] = some checksV := by kernel_rfl
theorem checks_call (o : AObj) : callFn env (ev env) 60 [] ⟨[o], []⟩ = some (checksV, ⟨checksH o, []⟩) := by
  refine callFn_eq rfl rfl at60 rfl (by simp [Tryd.f60]) (by simp [Tryd.f60]) ?_
  refine G_start ?_
  simp -implicitDefEqProofs only [Tryd.f60,Wa,Wb,Wc,Wd,We,Wf,Wg,Wh,Wi,Wj,Wk,Wl,Wm,Wn,Zo,Zp,evalT,Nat.reduceLT,Nat.reduceEqDiff,if_true,if_false,reduceIte,Ys,ofVal,ofCell,argT,resT,setT,Y0,Int.reduceEq,Int.reduceLT,Int.reduceLE,Int.reduceNeg,mb,Nat.reduceBEq,tys,stb,tys2,tys3,alone_call,opT_rowO,Nat.reduceAdd,row_checks]
  simp [oneOr, checksH]
theorem firstE_zero (cs : List Col) : ∀ m i, (firstE cs m i).1 = 0 → firstE cs m i = (0, -1)
  | 0, i, _ => rfl
  | m + 1, i, h => by
    simp only [firstE] at h ⊢
    by_cases hz : colX cs i = 0
    · rw [if_pos hz] at h ⊢; exact firstE_zero cs m (i + 1) h
    · rw [if_neg hz] at h; exact absurd h hz
open Classical in
noncomputable def restE (nm : List UInt8) (pb : Bool) (many : Int) (cs : List Col) : Nat → Int × Int
  | 0 => checkE nm pb many cs
  | 1 => if (pb = true ∧ many ≠ 0) ∨ (pb = false ∧ (many < 1 ∨ 50 < many)) then (2, -1) else if cs.length = 0 then (3, -1) else if 16 < cs.length then (4, -1) else firstE cs cs.length 0
  | 2 => if cs.length = 0 then (3, -1) else if 16 < cs.length then (4, -1) else firstE cs cs.length 0
  | 3 => if 16 < cs.length then (4, -1) else firstE cs cs.length 0
  | 4 => firstE cs cs.length 0
  | _ => (0, -1)
theorem idxF0 : vIndexAddr 1 checksV (.int .i64 0) = some (.rptr [alone 90 1, alone 91 3, alone 92 5, alone 93 7, .func 94 [] []]) := rfl
theorem idxF1 : vIndexAddr 1 checksV (.int .i64 1) = some (.rptr [alone 91 3, alone 92 5, alone 93 7, .func 94 [] []]) := rfl
theorem idxF2 : vIndexAddr 1 checksV (.int .i64 2) = some (.rptr [alone 92 5, alone 93 7, .func 94 [] []]) := rfl
theorem idxF3 : vIndexAddr 1 checksV (.int .i64 3) = some (.rptr [alone 93 7, .func 94 [] []]) := rfl
theorem idxF4 : vIndexAddr 1 checksV (.int .i64 4) = some (.rptr [.func 94 [] []]) := rfl
theorem lenF : vLenT (some (.slice 76)) checksV = some (.int .i64 5) := rfl
theorem at23 : env.P.funcs[23]? = some Tryd.f23 := by kernel_rfl
theorem wrap1 : IntKind.i64.wrap (0 + 1) = 1 ∧ IntKind.i64.wrap (1 + 1) = 2 ∧ IntKind.i64.wrap (2 + 1) = 3 ∧ IntKind.i64.wrap (3 + 1) = 4 ∧ IntKind.i64.wrap (4 + 1) = 5 := by
  refine ⟨?_, ?_, ?_, ?_, ?_⟩ <;> rw [wrap_i64 (by omega) (by omega)] <;> rfl
open Classical in
theorem check_call (nm : List UInt8) (pb : Bool) (many : Int) (cv : V) (cs : List Col) (hc : IsC cv cs) (ok : OkC cs) (hn : nm.length < 2 ^ 63) (hl : cs.length ≤ 1000) (hs : ∀ i, i < cs.length → Short (cs.getD i Col.none)) (σ : S) :
    callFn env (ev env) 23 [.agg [.str nm, .bool pb, .int .i64 many, cv]] σ = some (.tup [.int .i64 (checkE nm pb many cs).1, .int .i64 (checkE nm pb many cs).2], σ) := by
  refine callFn_pure rfl rfl (by simp [V.closed, V.closed.closedL, closed_C hc ok]) at23 rfl (by simp [Tryd.f23]) (by simp [Tryd.f23]) (G_start ?_) σ
  simp -implicitDefEqProofs only [Tryd.f23,Wa,Wb,Wc,Wd,We,Wf,Wg,Wh,Wi,Wj,Wk,Wl,Wm,Wn,Zo,Zp,evalT,Nat.reduceLT,Nat.reduceEqDiff,if_true,if_false,reduceIte,Ys,ofVal,ofCell,argT,resT,setT,Y0,Int.reduceEq,Int.reduceLT,Int.reduceLE,Int.reduceNeg,mb,Nat.reduceBEq,tys,stb,tys2,tys3,empty_mk,YW,checks_call,lenF]
  generalize hr : checkE nm pb many cs = r
  refine loop_rule (fun m T D σ => D = [] ∧ T 1 = .ptr 0 0 ∧ T 8 = checksV ∧ T 9 = .int .i64 5 ∧ ∃ (i : Nat) (X : List AObj), σ = ⟨checksH (.cells [.str nm, .bool pb, .int .i64 many, cv] 29) ++ X, []⟩ ∧ T 10 = .int .i64 i ∧ i ≤ 5 ∧ m = 5 - i ∧ restE nm pb many cs i = r) ?_ _ _ _ _
    ⟨rfl, rfl, rfl, rfl, 0, [], by rw [List.append_nil], rfl, by omega, rfl, hr⟩
  clear hr
  rintro m T D σ ⟨rfl, t1, t8, t9, i, X, rfl, t10, hi, rfl, hr⟩
  refine G_start ?_
  have hfin : ∀ a b : Int, (a, b) = r → sealV (checksH (.cells [.str nm, .bool pb, .int .i64 many, cv] 29) ++ X) sealDepth (oneOr [V.int .i64 a, V.int .i64 b]) = some (.tup [.int .i64 r.1, .int .i64 r.2]) := fun a b h => by
    subst h
    simp only [oneOr, sealDepth, sealV_tup, mapM_seal_cons, mapM_seal_nil, sealV_int, Option.bind_some, Option.map_some]
  have hfin2 : ∀ (Y : List AObj) (a b : Int), (a, b) = r → sealV Y sealDepth (oneOr [V.int .i64 a, V.int .i64 b]) = some (.tup [.int .i64 r.1, .int .i64 r.2]) := fun Y a b h => by
    subst h
    simp only [oneOr, sealDepth, sealV_tup, mapM_seal_cons, mapM_seal_nil, sealV_int, Option.bind_some, Option.map_some]
  have hL : loadCellsV (checksH (.cells [.str nm, .bool pb, .int .i64 many, cv] 29) ++ X) 4 (.ptr 0 0) = some [.str nm, .bool pb, .int .i64 many, cv] := load4_ptr rfl
  have hi' : i = 0 ∨ i = 1 ∨ i = 2 ∨ i = 3 ∨ i = 4 ∨ i = 5 := by omega
  rcases hi' with rfl | rfl | rfl | rfl | rfl | rfl
  · have hC := said_call 90 19 _ _ _ _ _ (ck90 nm hn (.bool pb) (.int .i64 many) cv) (checksH (.cells [.str nm, .bool pb, .int .i64 many, cv] 29) ++ X) [] 1 2 rfl rfl
    by_cases h : IsName nm
    · simp only [h, decide_true, Bool.not_true, Bool.false_eq_true, if_false] at hC
      have hr1 : restE nm pb many cs 1 = r := by rw [← hr]; show _ = checkE nm pb many cs; unfold checkE; rw [if_neg (by simp [h])]; rfl
      simp -implicitDefEqProofs only [Wa,Wb,Wc,Wd,We,Wf,Wg,Wh,Wi,Wj,Wk,Wl,Wm,Wn,Zo,Zp,evalT,Nat.reduceLT,Nat.reduceEqDiff,if_true,if_false,reduceIte,Ys,ofVal,ofCell,argT,resT,setT,Y0,Int.reduceEq,Int.reduceLT,Int.reduceLE,Int.reduceNeg,mb,Nat.reduceBEq,tys,stb,tys2,tys3,t1,t8,t9,t10,Int.natCast_zero,idxF0,load_hd,agg29,hL,alone,hC,wrap1]
      exact ⟨4, by omega, 1, _, by rw [List.append_assoc], rfl, by omega, rfl, hr1⟩
    · simp only [h, decide_false, Bool.not_false, if_true] at hC
      have hr1 : (19, -1) = r := by rw [← hr]; show _ = checkE nm pb many cs; unfold checkE; rw [if_pos (by simp [h])]
      simp -implicitDefEqProofs only [Wa,Wb,Wc,Wd,We,Wf,Wg,Wh,Wi,Wj,Wk,Wl,Wm,Wn,Zo,Zp,evalT,Nat.reduceLT,Nat.reduceEqDiff,if_true,if_false,reduceIte,Ys,ofVal,ofCell,argT,resT,setT,Y0,Int.reduceEq,Int.reduceLT,Int.reduceLE,Int.reduceNeg,mb,Nat.reduceBEq,tys,stb,tys2,tys3,t1,t8,t9,t10,Int.natCast_zero,idxF0,load_hd,agg29,hL,alone,hC,wrap1]
      exact hfin2 _ _ _ hr1
  · have hC := said_call 91 2 _ _ _ _ _ (ck91 (.str nm) cv pb many) (checksH (.cells [.str nm, .bool pb, .int .i64 many, cv] 29) ++ X) [] 3 4 rfl rfl
    by_cases h : (pb = true ∧ many ≠ 0) ∨ (pb = false ∧ (many < 1 ∨ 50 < many))
    · simp only [h, decide_true, if_true] at hC
      have hr1 : (2, -1) = r := by rw [← hr]; simp only [restE]; rw [if_pos h]
      simp -implicitDefEqProofs only [Wa,Wb,Wc,Wd,We,Wf,Wg,Wh,Wi,Wj,Wk,Wl,Wm,Wn,Zo,Zp,evalT,Nat.reduceLT,Nat.reduceEqDiff,if_true,if_false,reduceIte,Ys,ofVal,ofCell,argT,resT,setT,Y0,Int.reduceEq,Int.reduceLT,Int.reduceLE,Int.reduceNeg,mb,Nat.reduceBEq,tys,stb,tys2,tys3,t1,t8,t9,t10,Int.natCast_one,idxF1,load_hd,agg29,hL,alone,hC,wrap1]
      exact hfin2 _ _ _ hr1
    · simp only [h, decide_false, Bool.false_eq_true, if_false] at hC
      have hr1 : restE nm pb many cs 2 = r := by rw [← hr]; simp only [restE]; rw [if_neg h]
      simp -implicitDefEqProofs only [Wa,Wb,Wc,Wd,We,Wf,Wg,Wh,Wi,Wj,Wk,Wl,Wm,Wn,Zo,Zp,evalT,Nat.reduceLT,Nat.reduceEqDiff,if_true,if_false,reduceIte,Ys,ofVal,ofCell,argT,resT,setT,Y0,Int.reduceEq,Int.reduceLT,Int.reduceLE,Int.reduceNeg,mb,Nat.reduceBEq,tys,stb,tys2,tys3,t1,t8,t9,t10,Int.natCast_one,idxF1,load_hd,agg29,hL,alone,hC,wrap1]
      exact ⟨3, by omega, 2, _, by rw [List.append_assoc], rfl, by omega, rfl, hr1⟩
  · have hC := said_call 92 3 _ _ _ _ _ (ck92 (.str nm) (.bool pb) (.int .i64 many) cv cs hc) (checksH (.cells [.str nm, .bool pb, .int .i64 many, cv] 29) ++ X) [] 5 6 rfl rfl
    by_cases h : cs.length = 0
    · simp only [h, decide_true, if_true] at hC
      have hr1 : (3, -1) = r := by rw [← hr]; simp only [restE]; rw [if_pos h]
      simp -implicitDefEqProofs only [Wa,Wb,Wc,Wd,We,Wf,Wg,Wh,Wi,Wj,Wk,Wl,Wm,Wn,Zo,Zp,evalT,Nat.reduceLT,Nat.reduceEqDiff,if_true,if_false,reduceIte,Ys,ofVal,ofCell,argT,resT,setT,Y0,Int.reduceEq,Int.reduceLT,Int.reduceLE,Int.reduceNeg,mb,Nat.reduceBEq,tys,stb,tys2,tys3,t1,t8,t9,t10,Int.natCast_one,idxF2,load_hd,agg29,hL,alone,hC,wrap1]
      exact hfin2 _ _ _ hr1
    · simp only [h, decide_false, Bool.false_eq_true, if_false] at hC
      have hr1 : restE nm pb many cs 3 = r := by rw [← hr]; simp only [restE]; rw [if_neg h]
      simp -implicitDefEqProofs only [Wa,Wb,Wc,Wd,We,Wf,Wg,Wh,Wi,Wj,Wk,Wl,Wm,Wn,Zo,Zp,evalT,Nat.reduceLT,Nat.reduceEqDiff,if_true,if_false,reduceIte,Ys,ofVal,ofCell,argT,resT,setT,Y0,Int.reduceEq,Int.reduceLT,Int.reduceLE,Int.reduceNeg,mb,Nat.reduceBEq,tys,stb,tys2,tys3,t1,t8,t9,t10,Int.natCast_one,idxF2,load_hd,agg29,hL,alone,hC,wrap1]
      exact ⟨2, by omega, 3, _, by rw [List.append_assoc], rfl, by omega, rfl, hr1⟩
  · have hC := said_call 93 4 _ _ _ _ _ (ck93 (.str nm) (.bool pb) (.int .i64 many) cv cs hc) (checksH (.cells [.str nm, .bool pb, .int .i64 many, cv] 29) ++ X) [] 7 8 rfl rfl
    by_cases h : 16 < cs.length
    · simp only [h, decide_true, if_true] at hC
      have hr1 : (4, -1) = r := by rw [← hr]; simp only [restE]; rw [if_pos h]
      simp -implicitDefEqProofs only [Wa,Wb,Wc,Wd,We,Wf,Wg,Wh,Wi,Wj,Wk,Wl,Wm,Wn,Zo,Zp,evalT,Nat.reduceLT,Nat.reduceEqDiff,if_true,if_false,reduceIte,Ys,ofVal,ofCell,argT,resT,setT,Y0,Int.reduceEq,Int.reduceLT,Int.reduceLE,Int.reduceNeg,mb,Nat.reduceBEq,tys,stb,tys2,tys3,t1,t8,t9,t10,Int.natCast_one,idxF3,load_hd,agg29,hL,alone,hC,wrap1]
      exact hfin2 _ _ _ hr1
    · simp only [h, decide_false, Bool.false_eq_true, if_false] at hC
      have hr1 : restE nm pb many cs 4 = r := by rw [← hr]; simp only [restE]; rw [if_neg h]
      simp -implicitDefEqProofs only [Wa,Wb,Wc,Wd,We,Wf,Wg,Wh,Wi,Wj,Wk,Wl,Wm,Wn,Zo,Zp,evalT,Nat.reduceLT,Nat.reduceEqDiff,if_true,if_false,reduceIte,Ys,ofVal,ofCell,argT,resT,setT,Y0,Int.reduceEq,Int.reduceLT,Int.reduceLE,Int.reduceNeg,mb,Nat.reduceBEq,tys,stb,tys2,tys3,t1,t8,t9,t10,Int.natCast_one,idxF3,load_hd,agg29,hL,alone,hC,wrap1]
      exact ⟨1, by omega, 4, _, by rw [List.append_assoc], rfl, by omega, rfl, hr1⟩
  · obtain ⟨Y, hC⟩ := ck94 nm pb many cv cs hc ok hl hs (checksH (.cells [.str nm, .bool pb, .int .i64 many, cv] 29) ++ X) []
    have hr1 : firstE cs cs.length 0 = r := by rw [← hr]; simp only [restE]
    by_cases h : (firstE cs cs.length 0).1 = 0
    · have h2 := firstE_zero cs _ _ h
      simp only [h2] at hC
      simp -implicitDefEqProofs only [Wa,Wb,Wc,Wd,We,Wf,Wg,Wh,Wi,Wj,Wk,Wl,Wm,Wn,Zo,Zp,evalT,Nat.reduceLT,Nat.reduceEqDiff,if_true,if_false,reduceIte,Ys,ofVal,ofCell,argT,resT,setT,Y0,Int.reduceEq,Int.reduceLT,Int.reduceLE,Int.reduceNeg,mb,Nat.reduceBEq,tys,stb,tys2,tys3,t1,t8,t9,t10,Int.natCast_one,idxF4,load_hd,agg29,hL,alone,hC,wrap1]
      exact ⟨0, by omega, 5, _, by rw [List.append_assoc], rfl, by omega, rfl, by rw [← hr1, h2]; rfl⟩
    · simp -implicitDefEqProofs only [Wa,Wb,Wc,Wd,We,Wf,Wg,Wh,Wi,Wj,Wk,Wl,Wm,Wn,Zo,Zp,evalT,Nat.reduceLT,Nat.reduceEqDiff,if_true,if_false,reduceIte,Ys,ofVal,ofCell,argT,resT,setT,Y0,Int.reduceEq,Int.reduceLT,Int.reduceLE,Int.reduceNeg,mb,Nat.reduceBEq,tys,stb,tys2,tys3,t1,t8,t9,t10,Int.natCast_one,idxF4,load_hd,agg29,hL,alone,hC,wrap1,h]
      exact hfin2 _ _ _ hr1
  · have hr1 : (0, -1) = r := by rw [← hr]; simp only [restE]
    simp -implicitDefEqProofs only [Wa,Wb,Wc,Wd,We,Wf,Wg,Wh,Wi,Wj,Wk,Wl,Wm,Wn,Zo,Zp,evalT,Nat.reduceLT,Nat.reduceEqDiff,if_true,if_false,reduceIte,Ys,ofVal,ofCell,argT,resT,setT,Y0,Int.reduceEq,Int.reduceLT,Int.reduceLE,Int.reduceNeg,mb,Nat.reduceBEq,tys,stb,tys2,tys3,t1,t8,t9,t10,Int.natCast_one]
    exact hfin2 _ _ _ hr1
end Go.Proofs.YtbikmhpobflfeaaDoor
namespace Go.Proofs.YtbikmhpobflfeaaDoor
open Go.Ab
set_option maxHeartbeats 4000000
set_option maxRecDepth 100000
set_option linter.unusedSimpArgs false
set_option linter.unusedVariables false
set_option linter.unusedSectionVars false
structure Sch where
  name : List UInt8
  pub : Bool
  many : Int
  cv : V
  cs : List Col
def Sch.cells (s : Sch) : List V := [.str s.name, .bool s.pub, .int .i64 s.many, s.cv]
def Sch.none : Sch := ⟨[], false, 0, .nilsl, []⟩
def flatS (l : List Sch) : List V := (l.map Sch.cells).flatten
def IsS (v : V) (l : List Sch) : Prop := (v = .nilsl ∧ l = []) ∨ v = .row (flatS l) l.length .unk
def OkS (l : List Sch) : Prop := ∀ s ∈ l, IsC s.cv s.cs ∧ OkC s.cs
theorem OkS.at {l : List Sch} (h : OkS l) {i : Nat} (hi : i < l.length) : IsC (l.getD i Sch.none).cv (l.getD i Sch.none).cs ∧ OkC (l.getD i Sch.none).cs := h _ (by simp [List.getD, hi])
theorem flatS_cons (c : Sch) (cs : List Sch) : flatS (c :: cs) = .str c.name :: .bool c.pub :: .int .i64 c.many :: c.cv :: flatS cs := rfl
theorem flatS_drop : ∀ (cs : List Sch) (i : Nat), (flatS cs).drop (i * 4) = flatS (cs.drop i)
  | cs, 0 => by simp
  | [], i + 1 => by simp [flatS]
  | c :: cs, i + 1 => by
    rw [flatS_cons, show (i + 1) * 4 = i * 4 + 1 + 1 + 1 + 1 by omega]
    simp only [List.drop_succ_cons]
    exact flatS_drop cs i
theorem flatS_take : ∀ (cs : List Sch) (i : Nat), (flatS cs).take (i * 4) = flatS (cs.take i)
  | cs, 0 => by simp [flatS]
  | [], i + 1 => by simp [flatS]
  | c :: cs, i + 1 => by
    rw [flatS_cons, show (i + 1) * 4 = i * 4 + 1 + 1 + 1 + 1 by omega]
    simp only [List.take_succ_cons, flatS_take cs i, flatS_cons]
theorem flatS_at {cs : List Sch} {i : Nat} (hi : i < cs.length) : flatS (cs.drop i) = .str (cs.getD i Sch.none).name :: .bool (cs.getD i Sch.none).pub :: .int .i64 (cs.getD i Sch.none).many :: (cs.getD i Sch.none).cv :: flatS (cs.drop (i + 1)) := by
  have e : cs.drop i = cs.getD i Sch.none :: cs.drop (i + 1) := by
    rw [List.drop_eq_getElem_cons hi]
    simp [List.getD, hi]
  rw [e, flatS_cons]
theorem len_S {v : V} {cs : List Sch} (h : IsS v cs) : vLenT (some (.slice 29)) v = some (.int .i64 cs.length) := by
  rcases h with ⟨rfl, rfl⟩ | rfl <;> rfl
theorem idx_S {v : V} {cs : List Sch} (h : IsS v cs) {i : Nat} (hi : i < cs.length) : vIndexAddr 4 v (.int .i64 (i : Int)) = some (.rptr (.str (cs.getD i Sch.none).name :: .bool (cs.getD i Sch.none).pub :: .int .i64 (cs.getD i Sch.none).many :: (cs.getD i Sch.none).cv :: flatS (cs.drop (i + 1)))) := by
  rcases h with ⟨rfl, rfl⟩ | rfl
  · simp at hi
  · rw [Ys, if_pos (by omega), Int.toNat_natCast, flatS_drop, flatS_at hi]
theorem closed_flatS : ∀ {l : List Sch}, OkS l → V.closed.closedL (flatS l) = true
  | [], h => rfl
  | c :: cs, h => by
    have h1 := h c (by simp)
    rw [flatS_cons]
    simp only [V.closed.closedL, V.closed, closed_C h1.1 h1.2, closed_flatS (l := cs) fun x hx => h x (by simp [hx]), Bool.and_self]
theorem closed_S {v : V} {l : List Sch} (h : IsS v l) (ok : OkS l) : v.closed = true := by
  rcases h with ⟨rfl, rfl⟩ | rfl
  · rfl
  · simp only [V.closed, closed_flatS ok, Bool.and_self]
theorem tys4 : env.P.underlying 36 = some (.slice 29) := by kernel_rfl
theorem slice_S {v : V} {cs : List Sch} (h : IsS v cs) {i : Nat} (hi : i < cs.length) : ∃ u, sliceO env 36 v none (some (.int .i64 (i : Int))) none = some u ∧ IsS u (cs.take i) := by
  rcases h with ⟨rfl, rfl⟩ | rfl
  · simp at hi
  · refine ⟨.row (flatS (cs.take i)) i .unk, ?_, .inr (by simp [List.length_take, Nat.min_eq_left (Nat.le_of_lt hi)])⟩
    have hb : vBound (some (.int .i64 (i : Int))) cs.length cs.length = some i := by
      simp only [vBound]; simp; omega
    simp only [sliceO, tys2, tys4, Option.bind_some, vSlice, hb]
    simp [vBound, show ¬ i = cs.length by omega, flatS_take]
theorem takeS_getD (cs : List Sch) {i j : Nat} (h : j < i) : (cs.take i).getD j Sch.none = cs.getD j Sch.none := by
  simp [List.getD, List.getElem?_take, h]
def firstQ (f : Nat → Bool) : Nat → Nat → Int
  | 0, _ => -1
  | m + 1, i => if f i = true then i else firstQ f m (i + 1)
theorem firstQ_pos (f : Nat → Bool) : ∀ m i, 0 ≤ firstQ f m i ↔ ∃ j, i ≤ j ∧ j < i + m ∧ f j = true
  | 0, i => by simp only [firstQ]; constructor
               · intro h; omega
               · rintro ⟨j, h1, h2, _⟩; omega
  | m + 1, i => by
    simp only [firstQ]
    by_cases h : f i = true
    · rw [if_pos h]
      exact ⟨fun _ => ⟨i, by omega, by omega, h⟩, fun _ => by omega⟩
    · rw [if_neg h, firstQ_pos f m (i + 1)]
      constructor
      · rintro ⟨j, h1, h2, h3⟩; exact ⟨j, by omega, by omega, h3⟩
      · rintro ⟨j, h1, h2, h3⟩
        refine ⟨j, ?_, by omega, h3⟩
        rcases Nat.lt_or_ge i j with h4 | h4
        · omega
        · have : j = i := by omega
          subst this; exact absurd h3 h
theorem firstQ_step {f : Nat → Bool} {n i : Nat} (h : i < n) : firstQ f (n - i) i = if f i = true then (i : Int) else firstQ f (n - (i + 1)) (i + 1) := by
  obtain ⟨q, hq⟩ : ∃ q, n - i = q + 1 := ⟨n - i - 1, by omega⟩
  have hq2 : n - (i + 1) = q := by omega
  rw [hq, hq2]; rfl
theorem at63 : env.P.funcs[63]? = some Tryd.f63 := by kernel_rfl
def foundV (x : Int) : V := .tup [.int .i64 (if 0 ≤ x then x else 0), .bool (decide (0 ≤ x))]
theorem found_call (x : Int) (σ : S) : callFn env (ev env) 63 [.int .i64 x] σ = some (foundV x, σ) := by
  refine callFn_eq rfl rfl at63 rfl (by simp [Tryd.f63]) (by simp [Tryd.f63]) ?_
  refine G_start ?_
  by_cases h : 0 ≤ x
  · have h2 : ¬ x < 0 := by omega
    simp -implicitDefEqProofs only [Tryd.f63,Wa,Wb,Wc,Wd,We,Wf,Wg,Wh,Wi,Wj,Wk,Wl,Wm,Wn,Zo,Zp,evalT,Nat.reduceLT,Nat.reduceEqDiff,if_true,if_false,reduceIte,Ys,ofVal,ofCell,argT,resT,setT,Y0,Int.reduceEq,Int.reduceLT,Int.reduceLE,Int.reduceNeg,mb,Nat.reduceBEq,tys,stb,h,h2]
    simp [oneOr, foundV, h]
  · have h2 : x < 0 := by omega
    simp -implicitDefEqProofs only [Tryd.f63,Wa,Wb,Wc,Wd,We,Wf,Wg,Wh,Wi,Wj,Wk,Wl,Wm,Wn,Zo,Zp,evalT,Nat.reduceLT,Nat.reduceEqDiff,if_true,if_false,reduceIte,Ys,ofVal,ofCell,argT,resT,setT,Y0,Int.reduceEq,Int.reduceLT,Int.reduceLE,Int.reduceNeg,mb,Nat.reduceBEq,tys,stb,h,h2]
    simp [oneOr, foundV, h]
theorem at65 : env.P.funcs[65]? = some Tryd.f65 := by kernel_rfl
theorem namedS_call (nm : List UInt8) (d : Sch) (L : List AObj) (ts : List Nat) (p : Nat) (hp : L[p]? = some (.cells [.str nm] 9)) :
    callFn env (ev env) 65 [.agg [.str d.name, .bool d.pub, .int .i64 d.many, d.cv], .ptr p 0] ⟨L, ts⟩ = some (.bool (decide (d.name = nm)), ⟨L ++ [.cells [.str d.name, .bool d.pub, .int .i64 d.many, d.cv] 29], ts⟩) := by
  refine callFn_eq rfl rfl at65 rfl (by simp [Tryd.f65]) (by simp [Tryd.f65]) ?_
  refine G_start ?_
  by_cases h : d.name = nm <;>
  · simp -implicitDefEqProofs only [Tryd.f65,Wa,Wb,Wc,Wd,We,Wf,Wg,Wh,Wi,Wj,Wk,Wl,Wm,Wn,Zo,Zp,evalT,Nat.reduceLT,Nat.reduceEqDiff,if_true,if_false,reduceIte,Ys,ofVal,ofCell,argT,resT,setT,Y0,Int.reduceEq,Int.reduceLT,Int.reduceLE,Int.reduceNeg,mb,Nat.reduceBEq,tys,stb,tys2,YW,heap_end,get_app hp,vBin_seql,h]
    simp [oneOr, h]
def seekS (l : List Sch) (nm : List UInt8) : Nat → Nat → Int := firstQ fun i => decide ((l.getD i Sch.none).name = nm)
theorem at64 : env.P.funcs[64]? = some Tryd.f64 := by kernel_rfl
theorem indexS_call (nm : List UInt8) (v : V) (l : List Sch) (hv : IsS v l) (ok : OkS l) (hl : l.length ≤ 1000) (L : List AObj) (ts : List Nat) (p : Nat) (hp : L[p]? = some (.cells [.str nm] 9)) :
    ∃ X, callFn env (ev env) 64 [v, .func 65 [] [.ptr p 0]] ⟨L, ts⟩ = some (.int .i64 (seekS l nm l.length 0), ⟨L ++ X, ts⟩) := by
  suffices h : ∃ u σ', callFn env (ev env) 64 [v, .func 65 [] [.ptr p 0]] ⟨L, ts⟩ = some (u, σ') ∧ (u = .int .i64 (seekS l nm l.length 0) ∧ ∃ X, σ' = ⟨L ++ X, ts⟩) by
    obtain ⟨v, σ', h1, rfl, X, rfl⟩ := h
    exact ⟨X, h1⟩
  refine callFn_any rfl rfl at64 rfl (by simp [Tryd.f64]) (by simp [Tryd.f64]) (G_start ?_)
  simp -implicitDefEqProofs only [Tryd.f64,Wa,Wb,Wc,Wd,We,Wf,Wg,Wh,Wi,Wj,Wk,Wl,Wm,Wn,Zo,Zp,evalT,Nat.reduceLT,Nat.reduceEqDiff,if_true,if_false,reduceIte,Ys,ofVal,ofCell,argT,resT,setT,Y0,Int.reduceEq,Int.reduceLT,Int.reduceLE,Int.reduceNeg,mb,Nat.reduceBEq,tys,stb,tys2,tys4,len_S hv]
  refine loop_rule (fun m T D σ => D = [] ∧ T 0 = v ∧ T 1 = .func 65 [] [.ptr p 0] ∧ T 7 = .int .i64 l.length ∧ ∃ (i : Nat) (X : List AObj), σ = ⟨L ++ X, ts⟩ ∧ T 8 = .int .i64 i ∧ i ≤ l.length ∧ m = l.length - i ∧ seekS l nm l.length 0 = seekS l nm (l.length - i) i) ?_ _ _ _ _ ⟨rfl, rfl, rfl, rfl, 0, [], by simp, rfl, by omega, rfl, rfl⟩
  rintro m T D σ ⟨rfl, t0, t1, t7, i, X, rfl, t8, hi, rfl, hf⟩
  refine G_start ?_
  by_cases hlt : i < l.length
  · have c1 : (i : Int) < (l.length : Int) := by omega
    have e1 : IntKind.i64.wrap ((i : Int) + 1) = ((i + 1 : Nat) : Int) := by rw [wrap_i64 (by omega) (by omega)]; omega
    have hx := idx_S hv hlt
    have hN := namedS_call nm (l.getD i Sch.none) (L ++ X) ts p (get_app hp X)
    unfold seekS at hf
    rw [firstQ_step hlt] at hf
    by_cases hn : (l.getD i Sch.none).name = nm
    · rw [if_pos (decide_eq_true hn)] at hf
      simp only [hn, decide_true] at hN
      simp -implicitDefEqProofs only [Wa,Wb,Wc,Wd,We,Wf,Wg,Wh,Wi,Wj,Wk,Wl,Wm,Wn,Zo,Zp,evalT,Nat.reduceLT,Nat.reduceEqDiff,if_true,if_false,reduceIte,Ys,ofVal,ofCell,argT,resT,setT,Y0,Int.reduceEq,Int.reduceLT,Int.reduceLE,Int.reduceNeg,mb,Nat.reduceBEq,tys,stb,tys2,tys4,t0,t1,t7,t8,c1,e1,hx,agg29,load4_rptr,hn,hN]
      exact ⟨by rw [seekS, hf]; rfl, _, by rw [List.append_assoc]⟩
    · rw [if_neg (by simp only [decide_eq_true_eq]; exact hn)] at hf
      simp only [hn, decide_false] at hN
      simp -implicitDefEqProofs only [Wa,Wb,Wc,Wd,We,Wf,Wg,Wh,Wi,Wj,Wk,Wl,Wm,Wn,Zo,Zp,evalT,Nat.reduceLT,Nat.reduceEqDiff,if_true,if_false,reduceIte,Ys,ofVal,ofCell,argT,resT,setT,Y0,Int.reduceEq,Int.reduceLT,Int.reduceLE,Int.reduceNeg,mb,Nat.reduceBEq,tys,stb,tys2,tys4,t0,t1,t7,t8,c1,e1,hx,agg29,load4_rptr,hN]
      exact ⟨l.length - (i + 1), by omega, i + 1, _, by rw [List.append_assoc], rfl, by omega, rfl, hf⟩
  · have hi2 : i = l.length := by omega
    subst hi2
    have c1 : ¬ (l.length : Int) < (l.length : Int) := by omega
    rw [Nat.sub_self] at hf
    simp -implicitDefEqProofs only [Wa,Wb,Wc,Wd,We,Wf,Wg,Wh,Wi,Wj,Wk,Wl,Wm,Wn,Zo,Zp,evalT,Nat.reduceLT,Nat.reduceEqDiff,if_true,if_false,reduceIte,Ys,ofVal,ofCell,argT,resT,setT,Y0,Int.reduceEq,Int.reduceLT,Int.reduceLE,Int.reduceNeg,mb,Nat.reduceBEq,tys,stb,t0,t1,t7,t8,c1]
    exact ⟨by rw [hf]; rfl, X, rfl⟩
end Go.Proofs.YtbikmhpobflfeaaDoor
namespace Go.Proofs.YtbikmhpobflfeaaDoor
open Go.Ab
set_option maxHeartbeats 4000000
set_option maxRecDepth 100000
set_option linter.unusedSimpArgs false
set_option linter.unusedVariables false
set_option linter.unusedSectionVars false
theorem at29 : env.P.funcs[29]? = some Tryd.f29 := by kernel_rfl
theorem seal_found (h : List AObj) (x : Int) : sealV h sealDepth (oneOr [.int .i64 (if 0 ≤ x then x else 0), .bool (decide (0 ≤ x))]) = some (foundV x) := by
  simp only [oneOr, sealDepth, sealV_tup, mapM_seal_cons, mapM_seal_nil, sealV_int, sealV_bool, Option.bind_some, Option.map_some, foundV]
theorem find_call (nm : List UInt8) (v : V) (l : List Sch) (hv : IsS v l) (ok : OkS l) (hl : l.length ≤ 1000) (σ : S) : callFn env (ev env) 29 [v, .str nm] σ = some (foundV (seekS l nm l.length 0), σ) := by
  refine callFn_pure rfl rfl (by simp [V.closed, closed_S hv ok]) at29 rfl (by simp [Tryd.f29]) (by simp [Tryd.f29]) (G_start ?_) σ
  obtain ⟨X, hX⟩ := indexS_call nm v l hv ok hl [.cells [.str nm] 9] [] 0 rfl
  simp -implicitDefEqProofs only [Tryd.f29,Wa,Wb,Wc,Wd,We,Wf,Wg,Wh,Wi,Wj,Wk,Wl,Wm,Wn,Zo,Zp,evalT,Nat.reduceLT,Nat.reduceEqDiff,if_true,if_false,reduceIte,Ys,ofVal,ofCell,argT,resT,setT,Y0,Int.reduceEq,Int.reduceLT,Int.reduceLE,Int.reduceNeg,mb,Nat.reduceBEq,tys,stb,tys2,tys3,empty_mk,hX,found_call,show (V.str nm).cells = [.str nm] from rfl,foundV]
  exact seal_found _ _
end Go.Proofs.YtbikmhpobflfeaaDoor
namespace Go.Proofs.YtbikmhpobflfeaaDoor
open Go.Ab
set_option maxHeartbeats 4000000
set_option maxRecDepth 100000
set_option linter.unusedSimpArgs false
set_option linter.unusedVariables false
set_option linter.unusedSectionVars false
theorem at27 : env.P.funcs[27]? = some Tryd.f27 := by kernel_rfl
noncomputable def checkS (l : List Sch) (i : Nat) : Int × Int := checkE (l.getD i Sch.none).name (l.getD i Sch.none).pub (l.getD i Sch.none).many (l.getD i Sch.none).cs
open Classical in
noncomputable def firstA (l : List Sch) : Nat → Nat → Int × Int × Int
  | 0, _ => (0, -1, -1)
  | m + 1, i => if (checkS l i).1 = 0 then (if ∃ k, k < i ∧ (l.getD k Sch.none).name = (l.getD i Sch.none).name then (8, (i : Int), -1) else firstA l m (i + 1)) else ((checkS l i).1, (i : Int), (checkS l i).2)
noncomputable def allE (l : List Sch) : Int × Int × Int := if 16 < l.length then (4, 16, -1) else firstA l l.length 0
def ShortS (s : Sch) : Prop := s.name.length < 2 ^ 63 ∧ s.cs.length ≤ 1000 ∧ ∀ i, i < s.cs.length → Short (s.cs.getD i Col.none)
def tri (r : Int × Int × Int) : V := .tup [.int .i64 r.1, .int .i64 r.2.1, .int .i64 r.2.2]
theorem seal_tri (h : List AObj) (a b c : Int) (r : Int × Int × Int) (e : (a, b, c) = r) : sealV h sealDepth (oneOr [.int .i64 a, .int .i64 b, .int .i64 c]) = some (tri r) := by
  subst e
  simp only [oneOr, sealDepth, sealV_tup, mapM_seal_cons, mapM_seal_nil, sealV_int, sealV_bool, Option.bind_some, Option.map_some, tri]
theorem seek_take {l : List Sch} {nm : List UInt8} {i : Nat} (hi : i < l.length) : 0 ≤ seekS (l.take i) nm (l.take i).length 0 ↔ ∃ k, k < i ∧ (l.getD k Sch.none).name = nm := by
  have hli : (l.take i).length = i := by simp; omega
  rw [hli]; unfold seekS; rw [firstQ_pos]
  constructor
  · rintro ⟨j, _, h2, h3⟩
    have h3 := of_decide_eq_true h3
    rw [takeS_getD l (by omega)] at h3
    exact ⟨j, by omega, h3⟩
  · rintro ⟨j, h2, h3⟩
    exact ⟨j, by omega, by omega, by rw [takeS_getD l h2]; exact decide_eq_true h3⟩
theorem isCell_C {v : V} {cs : List Col} (h : IsC v cs) : v.isCell = true := by rcases h with ⟨rfl, _⟩ | rfl <;> rfl
theorem checkall_call (v : V) (l : List Sch) (hv : IsS v l) (ok : OkS l) (hl : l.length ≤ 1000) (hs : ∀ i, i < l.length → ShortS (l.getD i Sch.none)) (σ : S) : callFn env (ev env) 27 [v] σ = some (tri (allE l), σ) := by
  refine callFn_pure rfl rfl (by simp [V.closed, closed_S hv ok]) at27 rfl (by simp [Tryd.f27]) (by simp [Tryd.f27]) (G_start ?_) σ
  by_cases h16 : (16 : Int) < (l.length : Int)
  · have he : (4, 16, -1) = allE l := by unfold allE; rw [if_pos (by omega)]
    simp -implicitDefEqProofs only [Tryd.f27,Wa,Wb,Wc,Wd,We,Wf,Wg,Wh,Wi,Wj,Wk,Wl,Wm,Wn,Zo,Zp,evalT,Nat.reduceLT,Nat.reduceEqDiff,if_true,if_false,reduceIte,Ys,ofVal,ofCell,argT,resT,setT,Y0,Int.reduceEq,Int.reduceLT,Int.reduceLE,Int.reduceNeg,mb,Nat.reduceBEq,tys,stb,tys2,tys3,tys4,empty_mk,len_S hv,h16]
    exact seal_tri _ _ _ _ _ he
  have he : allE l = firstA l l.length 0 := by unfold allE; rw [if_neg (by omega)]
  simp -implicitDefEqProofs only [Tryd.f27,Wa,Wb,Wc,Wd,We,Wf,Wg,Wh,Wi,Wj,Wk,Wl,Wm,Wn,Zo,Zp,evalT,Nat.reduceLT,Nat.reduceEqDiff,if_true,if_false,reduceIte,Ys,ofVal,ofCell,argT,resT,setT,Y0,Int.reduceEq,Int.reduceLT,Int.reduceLE,Int.reduceNeg,mb,Nat.reduceBEq,tys,stb,tys2,tys3,tys4,empty_mk,len_S hv,h16]
  refine loop_rule (fun m T D σ => D = [] ∧ T 0 = v ∧ T 14 = v ∧ T 15 = .int .i64 l.length ∧ ∃ (i : Nat) (X : List AObj), σ = ⟨X, []⟩ ∧ T 16 = .int .i64 i ∧ i ≤ l.length ∧ m = l.length - i ∧ allE l = firstA l (l.length - i) i) ?_ _ _ _ _ ⟨rfl, rfl, rfl, rfl, 0, [], rfl, rfl, by omega, rfl, he⟩
  clear he
  rintro m T D σ ⟨rfl, t0, t14, t15, i, X, rfl, t16, hi, rfl, hf⟩
  refine G_start ?_
  by_cases hlt : i < l.length
  · have c1 : (i : Int) < (l.length : Int) := by omega
    have e1 : IntKind.i64.wrap ((i : Int) + 1) = ((i + 1 : Nat) : Int) := by rw [wrap_i64 (by omega) (by omega)]; omega
    have hx := idx_S hv hlt
    obtain ⟨hcc, hok⟩ := ok.at hlt
    obtain ⟨hs1, hs2, hs3⟩ := hs i hlt
    have hic := isCell_C hcc
    obtain ⟨u, hu, hcu⟩ := slice_S hv hlt
    have oku : OkS (l.take i) := fun c h => ok c (List.mem_of_mem_take h)
    have hF := find_call (l.getD i Sch.none).name u (l.take i) hcu oku (by simp; omega)
    obtain ⟨q, hq⟩ : ∃ q, l.length - i = q + 1 := ⟨l.length - i - 1, by omega⟩
    have hq2 : q = l.length - (i + 1) := by omega
    have hstep : firstA l (l.length - i) i = if (checkS l i).1 = 0 then (if ∃ k, k < i ∧ (l.getD k Sch.none).name = (l.getD i Sch.none).name then (8, (i : Int), -1) else firstA l q (i + 1)) else ((checkS l i).1, (i : Int), (checkS l i).2) := by rw [hq]; rfl
    rw [hstep] at hf
    have hC := check_call (l.getD i Sch.none).name (l.getD i Sch.none).pub (l.getD i Sch.none).many (l.getD i Sch.none).cv (l.getD i Sch.none).cs hcc hok hs1 hs2 hs3
    change ∀ σ, _ = some (V.tup [.int .i64 (checkS l i).1, .int .i64 (checkS l i).2], σ) at hC
    by_cases hz : (checkS l i).1 = 0
    · rw [if_pos hz] at hf
      simp only [hz] at hC
      by_cases hk : 0 ≤ seekS (l.take i) (l.getD i Sch.none).name (l.take i).length 0
      · rw [if_pos ((seek_take hlt).1 hk)] at hf
        simp -implicitDefEqProofs only [Wa,Wb,Wc,Wd,We,Wf,Wg,Wh,Wi,Wj,Wk,Wl,Wm,Wn,Zo,Zp,evalT,Nat.reduceLT,Nat.reduceEqDiff,if_true,if_false,reduceIte,Ys,ofVal,ofCell,argT,resT,setT,Y0,Int.reduceEq,Int.reduceLT,Int.reduceLE,Int.reduceNeg,mb,Nat.reduceBEq,tys,stb,tys2,tys3,tys4,t0,t14,t15,t16,c1,e1,hx,agg29,load4_rptr,z29,heap_end,set_end,storeList,List.take_zero,List.drop_zero,List.drop_succ_cons,List.drop_nil,List.all_cons,List.all_nil,isCell_str,isCell_int,isCell_bool,hic,YW,Nat.reduceAdd,Nat.reduceLeDiff,load4_end,hC,opT_slice,optO_none,optO_some,hu,hF,foundV,hk]
        exact ⟨by kernel_rfl, seal_tri _ _ _ _ _ hf.symm⟩
      · rw [if_neg (fun h => hk ((seek_take hlt).2 h)), hq2] at hf
        simp -implicitDefEqProofs only [Wa,Wb,Wc,Wd,We,Wf,Wg,Wh,Wi,Wj,Wk,Wl,Wm,Wn,Zo,Zp,evalT,Nat.reduceLT,Nat.reduceEqDiff,if_true,if_false,reduceIte,Ys,ofVal,ofCell,argT,resT,setT,Y0,Int.reduceEq,Int.reduceLT,Int.reduceLE,Int.reduceNeg,mb,Nat.reduceBEq,tys,stb,tys2,tys3,tys4,t0,t14,t15,t16,c1,e1,hx,agg29,load4_rptr,z29,heap_end,set_end,storeList,List.take_zero,List.drop_zero,List.drop_succ_cons,List.drop_nil,List.all_cons,List.all_nil,isCell_str,isCell_int,isCell_bool,hic,YW,Nat.reduceAdd,Nat.reduceLeDiff,load4_end,hC,opT_slice,optO_none,optO_some,hu,hF,foundV,hk]
        exact ⟨by kernel_rfl, l.length - (i + 1), by omega, i + 1, _, rfl, rfl, by omega, rfl, hf⟩
    · rw [if_neg hz] at hf
      simp -implicitDefEqProofs only [Wa,Wb,Wc,Wd,We,Wf,Wg,Wh,Wi,Wj,Wk,Wl,Wm,Wn,Zo,Zp,evalT,Nat.reduceLT,Nat.reduceEqDiff,if_true,if_false,reduceIte,Ys,ofVal,ofCell,argT,resT,setT,Y0,Int.reduceEq,Int.reduceLT,Int.reduceLE,Int.reduceNeg,mb,Nat.reduceBEq,tys,stb,tys2,tys3,tys4,t0,t14,t15,t16,c1,e1,hx,agg29,load4_rptr,z29,heap_end,set_end,storeList,List.take_zero,List.drop_zero,List.drop_succ_cons,List.drop_nil,List.all_cons,List.all_nil,isCell_str,isCell_int,isCell_bool,hic,YW,Nat.reduceAdd,Nat.reduceLeDiff,load4_end,hC,hz]
      exact seal_tri _ _ _ _ _ hf.symm
  · have hi2 : i = l.length := by omega
    subst hi2
    have c1 : ¬ (l.length : Int) < (l.length : Int) := by omega
    rw [Nat.sub_self] at hf
    simp -implicitDefEqProofs only [Wa,Wb,Wc,Wd,We,Wf,Wg,Wh,Wi,Wj,Wk,Wl,Wm,Wn,Zo,Zp,evalT,Nat.reduceLT,Nat.reduceEqDiff,if_true,if_false,reduceIte,Ys,ofVal,ofCell,argT,resT,setT,Y0,Int.reduceEq,Int.reduceLT,Int.reduceLE,Int.reduceNeg,mb,Nat.reduceBEq,tys,stb,t0,t14,t15,t16,c1]
    exact seal_tri _ _ _ _ _ hf.symm
end Go.Proofs.YtbikmhpobflfeaaDoor
namespace Go.Proofs.YtbikmhpobflfeaaDoor
open Go.Ab
set_option maxHeartbeats 4000000
set_option maxRecDepth 100000
set_option linter.unusedSimpArgs false
set_option linter.unusedVariables false
set_option linter.unusedSectionVars false
def rowW (ws : List (List UInt8)) : V := .row (ws.map V.str) ws.length .unk
theorem rowW_is (ws : List (List UInt8)) : IsW (rowW ws) ws := .inr rfl
def reds : List (List UInt8) := [[114, 101, 100], [103, 114, 101, 101, 110], [98, 108, 117, 101], [103, 114, 101, 121], [112, 105, 110, 107]]
def ages : List (List UInt8) := [[97, 103, 101], [99, 111, 108, 111, 117, 114], [104, 101, 105, 103, 104, 116], [112, 108, 97, 99, 101], [115, 99, 111, 114, 101]]
def tabs : List (List UInt8) := [[112, 101, 111, 112, 108, 101], [118, 105, 115, 105, 116, 115], [112, 108, 97, 99, 101, 115], [110, 111, 116, 101, 115]]
theorem not_resW : ∀ s ∈ tabs ++ ages ++ reds, s ∉ wordsW := by decide +kernel
theorem name_of {s : List UInt8} (h : s ∈ tabs ++ ages ++ reds) : IsName s := by
  have hn := not_resW s h
  revert hn
  revert h
  revert s
  decide +kernel
theorem ages_name : ∀ i, i < 5 → IsName (ages.getD i []) := fun i hi => name_of (by
  have : ages.getD i [] ∈ ages := by simp only [List.getD]; rw [List.getElem?_eq_getElem (by simpa [ages] using hi)]; exact List.getElem_mem _
  exact List.mem_append_left _ (List.mem_append_right _ this))
theorem reds_name : ∀ i, i < 5 → IsName (reds.getD i []) := fun i hi => name_of (by
  have : reds.getD i [] ∈ reds := by simp only [List.getD]; rw [List.getElem?_eq_getElem (by simpa [reds] using hi)]; exact List.getElem_mem _
  exact List.mem_append_right _ this)
theorem tabs_name : ∀ i, i < 4 → IsName (tabs.getD i []) := fun i hi => name_of (by
  have : tabs.getD i [] ∈ tabs := by simp only [List.getD]; rw [List.getElem?_eq_getElem (by simpa [tabs] using hi)]; exact List.getElem_mem _
  exact List.mem_append_left _ (List.mem_append_left _ this))
theorem reds_inj : ∀ i, i < 5 → ∀ j, j < 5 → reds.getD i [] = reds.getD j [] → i = j := by decide
theorem ages_inj : ∀ i, i < 5 → ∀ j, j < 5 → ages.getD i [] = ages.getD j [] → i = j := by decide
theorem tabs_inj : ∀ i, i < 4 → ∀ j, j < 4 → tabs.getD i [] = tabs.getD j [] → i = j := by decide
theorem reds_take {k i : Nat} (hk : k ≤ 5) (hi : i < k) : (reds.take k).getD i [] = reds.getD i [] := by
  simp only [List.getD]; rw [List.getElem?_take_of_lt hi]
theorem reds_len {k : Nat} (hk : k ≤ 5) : (reds.take k).length = k := by simp [reds]; omega
def Kit (c : Col) : Prop := (∃ j, j < 5 ∧ c.name = ages.getD j []) ∧ c.w = rowW c.ws ∧ ((c.ws = [] ∧ -3 ≤ c.lo ∧ c.lo ≤ c.hi ∧ c.hi ≤ 20) ∨ ∃ k, 1 ≤ k ∧ k ≤ 5 ∧ c.ws = reds.take k ∧ c.lo = 0 ∧ c.hi = (k : Int) - 1)
theorem Kit.col {c : Col} (h : Kit c) : IsName c.name ∧ colE c = 0 ∧ Short c := by
  obtain ⟨⟨j, hj, hn⟩, hw, hv⟩ := h
  have hname : IsName c.name := by rw [hn]; exact ages_name j hj
  have hnl : c.name.length < 2 ^ 63 := by have := hname.2.1; omega
  rcases hv with ⟨h2, h3, h4, h5⟩ | ⟨k, h1, h2, h3, h4, h5⟩
  · refine ⟨hname, ?_, hnl, by rw [h2]; simp, fun i hi => by rw [h2] at hi; simp at hi⟩
    unfold colE
    rw [if_pos (show c.ws.length = 0 by rw [h2]; rfl), if_neg (by omega)]
  · have hl := reds_len h2
    refine ⟨hname, ?_, hnl, by rw [h3, hl]; omega, fun i hi => ?_⟩
    · unfold colE
      rw [if_neg (by rw [h3, hl]; omega), if_neg (by rw [h3, hl]; omega), if_neg, if_neg, if_neg (by rw [h3, hl]; omega)]
      · rw [h3]
        rintro ⟨i, i', hlt, hlt2, he⟩
        rw [hl] at hlt2
        rw [reds_take h2 (by omega), reds_take h2 hlt2] at he
        have := reds_inj i (by omega) i' (by omega) he
        omega
      · rw [h3]
        rintro ⟨i, hi, hn⟩
        rw [hl] at hi
        rw [reds_take h2 hi] at hn
        exact hn (reds_name i (by omega))
    · rw [h3] at hi ⊢
      rw [hl] at hi
      rw [reds_take h2 hi]
      have := (reds_name i (by omega)).2.1
      omega
structure Fine (cs : List Col) : Prop where
  kit : ∀ i, i < cs.length → Kit (cs.getD i Col.none)
  apart : ∀ k i, k < cs.length → i < cs.length → k ≠ i → (cs.getD k Col.none).name ≠ (cs.getD i Col.none).name
theorem Fine.x {cs : List Col} (h : Fine cs) {i : Nat} (hi : i < cs.length) : colX cs i = 0 := by
  unfold colX
  obtain ⟨h1, h2, _⟩ := (h.kit i hi).col
  rw [if_neg (by simpa using h1), if_neg, h2]
  rintro ⟨k, hk, e⟩
  exact h.apart k i (by omega) hi (by omega) e
theorem Fine.first {cs : List Col} (h : Fine cs) : ∀ m i, i + m = cs.length → firstE cs m i = (0, -1)
  | 0, i, _ => rfl
  | m + 1, i, e => by
    rw [firstE, if_pos (h.x (by omega))]
    exact h.first m (i + 1) (by omega)
theorem Fine.check {cs : List Col} (h : Fine cs) {nm : List UInt8} (hn : IsName nm) {pb : Bool} {many : Int} (hm : (pb = true ∧ many = 0) ∨ (pb = false ∧ 1 ≤ many ∧ many ≤ 50)) (hl : cs.length ≤ 16) : checkE nm pb many cs = if cs.length = 0 then (3, -1) else (0, -1) := by
  unfold checkE
  rw [if_neg (by simpa using hn), if_neg (by rcases hm with ⟨rfl, h⟩ | ⟨rfl, h1, h2⟩ <;> simp <;> omega)]
  split
  · rfl
  · rw [if_neg (by omega), h.first _ _ (by omega)]
theorem Fine.ok {cs : List Col} (h : Fine cs) : OkC cs := fun c hc => by
  obtain ⟨i, hi, rfl⟩ := List.mem_iff_getElem.1 hc
  have := (h.kit i hi).2.1
  rw [List.getD, List.getElem?_eq_getElem hi] at this
  simp only [Option.getD_some] at this
  rw [this]; exact rowW_is _
theorem Fine.row {cs : List Col} (h : Fine cs) : ∀ i, i < cs.length → (cs.getD i Col.none).w = rowW (cs.getD i Col.none).ws := fun i hi => (h.kit i hi).2.1
theorem Fine.short {cs : List Col} (h : Fine cs) : ∀ i, i < cs.length → Short (cs.getD i Col.none) := fun i hi => (h.kit i hi).col.2.2
theorem Fine.ws {cs : List Col} (h : Fine cs) : ∀ i, i < cs.length → (cs.getD i Col.none).ws.length ≤ 1000 := fun i hi => (h.short i hi).2.1
theorem Fine.move {cs ds : List Col} (h : Fine cs) (f : Nat → Nat) (hf : ∀ i, i < ds.length → f i < cs.length ∧ ds.getD i Col.none = cs.getD (f i) Col.none) (hi : ∀ k i, k < ds.length → i < ds.length → f k = f i → k = i) : Fine ds :=
  ⟨fun i hl => by rw [(hf i hl).2]; exact h.kit _ (hf i hl).1, fun k i hk hl hne => by rw [(hf i hl).2, (hf k hk).2]; exact h.apart _ _ (hf k hk).1 (hf i hl).1 fun e => hne (hi k i hk hl e)⟩
def swapC (cs : List Col) (a b : Nat) : List Col := (cs.set a (cs.getD b Col.none)).set b (cs.getD a Col.none)
theorem swapC_len (cs : List Col) (a b : Nat) : (swapC cs a b).length = cs.length := by simp [swapC]
theorem Fine.swap {cs : List Col} (h : Fine cs) {a b : Nat} (ha : a < cs.length) (hb : b < cs.length) : Fine (swapC cs a b) := by
  refine h.move (fun i => if i = b then a else if i = a then b else i) (fun i hi => ?_) (fun k i hk hi e => ?_)
  · rw [swapC_len] at hi
    refine ⟨?_, ?_⟩
    · split
      · exact ha
      · split <;> assumption
    · simp only [swapC, List.getD]
      by_cases h1 : i = b
      · subst h1
        rw [if_pos rfl, List.getElem?_set_self (by simpa using hi)]
        rfl
      · rw [if_neg h1, List.getElem?_set_ne (Ne.symm h1)]
        by_cases h2 : i = a
        · subst h2
          rw [if_pos rfl, List.getElem?_set_self hi]
          rfl
        · rw [if_neg h2, List.getElem?_set_ne (Ne.symm h2)]
  · split at e <;> split at e <;> (try split at e) <;> (try split at e) <;> omega
theorem Fine.less {cs : List Col} (h : Fine cs) {a : Nat} (ha : a < cs.length) : Fine (cs.take a ++ cs.drop (a + 1)) := by
  refine h.move (fun i => if i < a then i else i + 1) (fun i hi => ?_) (fun k i hk hi e => ?_)
  · simp only [List.length_append, List.length_take, List.length_drop] at hi
    refine ⟨by split <;> omega, ?_⟩
    simp only [List.getD]
    by_cases h1 : i < a
    · rw [if_pos h1, List.getElem?_append_left (by simp; omega), List.getElem?_take_of_lt h1]
    · rw [if_neg h1, List.getElem?_append_right (by simp; omega), List.getElem?_drop]
      congr 2
      simp; omega
  · split at e <;> split at e <;> omega
structure FineS (j : Nat) (s : Sch) : Prop where
  name : s.name = tabs.getD j []
  many : (s.pub = true ∧ s.many = 0) ∨ (s.pub = false ∧ 1 ≤ s.many ∧ s.many ≤ 50)
  one : 1 ≤ s.cs.length
  five : s.cs.length ≤ 5
  fine : Fine s.cs
theorem FineS.check {j : Nat} (hj : j < 4) {s : Sch} (h : FineS j s) : checkE s.name s.pub s.many s.cs = (0, -1) := by
  rw [h.fine.check (by rw [h.name]; exact tabs_name j hj) h.many (by have := h.five; omega), if_neg (by have := h.one; omega)]
theorem allE_fine {l : List Sch} (hl : l.length ≤ 4) (h : ∀ j, j < l.length → FineS j (l.getD j Sch.none)) : allE l = (0, -1, -1) := by
  unfold allE
  rw [if_neg (by omega)]
  have key : ∀ m i, i + m = l.length → firstA l m i = (0, -1, -1) := by
    intro m
    induction m with
    | zero => intro i _; rfl
    | succ m ih =>
      intro i e
      have hc : checkS l i = (0, -1) := (h i (by omega)).check (by omega)
      rw [firstA, hc, if_pos rfl, if_neg, ih (i + 1) (by omega)]
      rintro ⟨k, hk, e2⟩
      rw [(h k (by omega)).name, (h i (by omega)).name] at e2
      have := tabs_inj k (by omega) i (by omega) e2
      omega
  exact key _ _ (by omega)
end Go.Proofs.YtbikmhpobflfeaaDoor
namespace Go.Proofs.YtbikmhpobflfeaaDoor
open Go.Ab
set_option maxHeartbeats 4000000
set_option maxRecDepth 100000
set_option linter.unusedSimpArgs false
set_option linter.unusedVariables false
set_option linter.unusedSectionVars false
def GoodC (c : Col) : Prop := IsW c.w c.ws ∧ c.name.length < 2 ^ 63 ∧ c.ws.length < 2 ^ 63 ∧ ∀ i, i < c.ws.length → (c.ws.getD i []).length < 2 ^ 63
def GoodS (s : Sch) : Prop := IsC s.cv s.cs ∧ (∀ c ∈ s.cs, GoodC c) ∧ s.name.length < 2 ^ 63 ∧ s.cs.length < 2 ^ 63
theorem maxLen_lt : maxLen < 2 ^ 63 := by decide
theorem GoodS.okC {s : Sch} (h : GoodS s) : OkC s.cs := fun c hc => (h.2.1 c hc).1
theorem getD_mem {α : Type} {l : List α} {d : α} {i : Nat} (h : i < l.length) : l.getD i d ∈ l := by simp [List.getD, h]
theorem GoodS.short {s : Sch} (h : GoodS s) (hv : ¬ Vast s.cs) : ShortS s := by
  have h2 : ¬ 100 < s.cs.length := fun q => hv (.inr q)
  refine ⟨h.2.2.1, by omega, fun i hi => ?_⟩
  have hg := h.2.1 _ (getD_mem (d := Col.none) hi)
  have h3 : ¬ 100 < (s.cs.getD i Col.none).ws.length := fun q => hv (.inl ⟨i, hi, q⟩)
  exact ⟨hg.2.1, by omega, hg.2.2.2⟩
end Go.Proofs.YtbikmhpobflfeaaDoor
