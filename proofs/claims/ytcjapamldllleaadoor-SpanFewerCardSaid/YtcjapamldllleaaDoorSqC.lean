/- Proved here: what operations give, and the run of an expression. Conditions: those of each theorem; no statement of the seat is proved in this text. -/
import Derived.Test.YtcjapamldllleaaDoorSqB
namespace Go.Proofs.YtcjapamldllleaaDoor
open Go.Ab
set_option maxHeartbeats 4000000
set_option maxRecDepth 100000
set_option linter.unusedSimpArgs false
set_option linter.unusedVariables false
theorem at128 : env.P.funcs[128]? = some Tryd.f128 := by kernel_rfl
theorem at129 : env.P.funcs[129]? = some Tryd.f129 := by kernel_rfl
theorem at130 : env.P.funcs[130]? = some Tryd.f130 := by kernel_rfl
theorem at125 : env.P.funcs[125]? = some Tryd.f125 := by kernel_rfl
def minI (a b : Int) : Int := if b < a then b else a
def maxI (a b : Int) : Int := if b > a then b else a
def wr (x : Int) : Int := IntKind.i64.wrap x
def limI (n : Int) : Int := maxI (-1000000000000000) (minI n 1000000000000000)
def timesI (a b : Int) : Int :=
  if a = 0 ∨ b = 0 then 0
  else if maxI a (wr (0 - a)) ≤ wr (Int.tdiv 1000000000000000 (maxI b (wr (0 - b)))) then wr (a * b)
  else if decide (a < 0) = decide (b < 0) then 1000000000000000 else -1000000000000000
def bitI (p : Bool) : Int := if p = true then 1 else 0
theorem limit_call (n : Int) (σ : S) : callFn env (ev env) 128 [.int .i64 n] σ = some (.int .i64 (limI n), σ) := by
  refine callFn_pure rfl rfl rfl at128 rfl (by simp [Tryd.f128]) (by simp [Tryd.f128]) (G_start ?_) σ
  simp -implicitDefEqProofs only [Tryd.f128,Wa,Wb,Wc,Wd,We,Wf,Wg,Wh,Wi,Wj,Wk,Wl,Wm,Wn,Zo,Zp,evalT,Nat.reduceLT,Nat.reduceEqDiff,if_true,if_false,reduceIte,Ys,ofVal,ofCell,argT,resT,setT,Y0,Int.reduceEq,Int.reduceLT,Int.reduceLE,Int.reduceNeg,mb,Nat.reduceBEq,tys,stb,empty_mk]
  rfl
theorem bit_call (p : Bool) (σ : S) : callFn env (ev env) 130 [.bool p] σ = some (.int .i64 (bitI p), σ) := by
  refine callFn_pure rfl rfl rfl at130 rfl (by simp [Tryd.f130]) (by simp [Tryd.f130]) (G_start ?_) σ
  cases p
  · simp -implicitDefEqProofs only [Tryd.f130,Wa,Wb,Wc,Wd,We,Wf,Wg,Wh,Wi,Wj,Wk,Wl,Wm,Wn,Zo,Zp,evalT,Nat.reduceLT,Nat.reduceEqDiff,if_true,if_false,reduceIte,Ys,ofVal,ofCell,argT,resT,setT,Y0,Int.reduceEq,Int.reduceLT,Int.reduceLE,Int.reduceNeg,mb,Nat.reduceBEq,tys,stb,empty_mk]
    rfl
  · simp -implicitDefEqProofs only [Tryd.f130,Wa,Wb,Wc,Wd,We,Wf,Wg,Wh,Wi,Wj,Wk,Wl,Wm,Wn,Zo,Zp,evalT,Nat.reduceLT,Nat.reduceEqDiff,if_true,if_false,reduceIte,Ys,ofVal,ofCell,argT,resT,setT,Y0,Int.reduceEq,Int.reduceLT,Int.reduceLE,Int.reduceNeg,mb,Nat.reduceBEq,tys,stb,empty_mk]
    rfl
theorem size_ne {b : Int} (h : ¬ b = 0) (h1 : -9223372036854775808 ≤ b) (h2 : b ≤ 9223372036854775807) : ¬ maxI b (wr (0 - b)) = 0 := by
  unfold maxI wr
  rw [IntKind.wrap_i64]
  split <;> omega
def In64 (x : Int) : Prop := -9223372036854775808 ≤ x ∧ x ≤ 9223372036854775807
theorem wr_in (x : Int) : In64 (wr x) := by
  unfold wr In64
  rw [IntKind.wrap_i64]; omega
theorem times_call (a b : Int) (hb : In64 b) (σ : S) : callFn env (ev env) 129 [.int .i64 a, .int .i64 b] σ = some (.int .i64 (timesI a b), σ) := by
  refine callFn_pure rfl rfl rfl at129 rfl (by simp [Tryd.f129]) (by simp [Tryd.f129]) (G_start ?_) σ
  unfold timesI
  by_cases h1 : a = 0
  · rw [if_pos (.inl h1)]
    have g1 : ((a : Int) = 0) = True := eq_true h1
    simp -implicitDefEqProofs only [Tryd.f129,Wa,Wb,Wc,Wd,We,Wf,Wg,Wh,Wi,Wj,Wk,Wl,Wm,Wn,Zo,Zp,evalT,Nat.reduceLT,Nat.reduceEqDiff,if_true,if_false,reduceIte,Ys,ofVal,ofCell,argT,resT,setT,Y0,Int.reduceEq,Int.reduceLT,Int.reduceLE,Int.reduceNeg,mb,Nat.reduceBEq,tys,stb,empty_mk,g1]
    rfl
  have g1 : ((a : Int) = 0) = False := eq_false h1
  by_cases h2 : b = 0
  · rw [if_pos (.inr h2)]
    have g2 : ((b : Int) = 0) = True := eq_true h2
    simp -implicitDefEqProofs only [Tryd.f129,Wa,Wb,Wc,Wd,We,Wf,Wg,Wh,Wi,Wj,Wk,Wl,Wm,Wn,Zo,Zp,evalT,Nat.reduceLT,Nat.reduceEqDiff,if_true,if_false,reduceIte,Ys,ofVal,ofCell,argT,resT,setT,Y0,Int.reduceEq,Int.reduceLT,Int.reduceLE,Int.reduceNeg,mb,Nat.reduceBEq,tys,stb,empty_mk,g1,g2]
    rfl
  have g2 : ((b : Int) = 0) = False := eq_false h2
  rw [if_neg (by rintro (h | h) <;> contradiction)]
  have hsz := size_ne h2 hb.1 hb.2
  have hm1 : (if IntKind.i64.wrap (0 - b) > b then IntKind.i64.wrap (0 - b) else b) = maxI b (wr (0 - b)) := rfl
  have hm2 : (if IntKind.i64.wrap (0 - a) > a then IntKind.i64.wrap (0 - a) else a) = maxI a (wr (0 - a)) := rfl
  have g3 : ((maxI b (wr (0 - b)) : Int) = 0) = False := eq_false hsz
  by_cases h3 : maxI a (wr (0 - a)) ≤ wr (Int.tdiv 1000000000000000 (maxI b (wr (0 - b))))
  · rw [if_pos h3]
    have h3' : maxI a (wr (0 - a)) ≤ IntKind.i64.wrap (Int.tdiv 1000000000000000 (maxI b (wr (0 - b)))) := h3
    simp -implicitDefEqProofs only [Tryd.f129,Wa,Wb,Wc,Wd,We,Wf,Wg,Wh,Wi,Wj,Wk,Wl,Wm,Wn,Zo,Zp,evalT,Nat.reduceLT,Nat.reduceEqDiff,if_true,if_false,reduceIte,Ys,ofVal,ofCell,argT,resT,setT,Y0,Int.reduceEq,Int.reduceLT,Int.reduceLE,Int.reduceNeg,mb,Nat.reduceBEq,tys,stb,empty_mk,g1,g2,hm1,hm2,g3,h3']
    rfl
  rw [if_neg h3]
  have h3' : ¬ maxI a (wr (0 - a)) ≤ IntKind.i64.wrap (Int.tdiv 1000000000000000 (maxI b (wr (0 - b)))) := h3
  by_cases h4 : a < 0 <;> by_cases h5 : b < 0
  · rw [decide_eq_true h4, decide_eq_true h5]
    simp -implicitDefEqProofs only [Tryd.f129,Wa,Wb,Wc,Wd,We,Wf,Wg,Wh,Wi,Wj,Wk,Wl,Wm,Wn,Zo,Zp,evalT,Nat.reduceLT,Nat.reduceEqDiff,if_true,if_false,reduceIte,Ys,ofVal,ofCell,argT,resT,setT,Y0,Int.reduceEq,Int.reduceLT,Int.reduceLE,Int.reduceNeg,mb,Nat.reduceBEq,tys,stb,empty_mk,g1,g2,hm1,hm2,g3,h3',h4,h5]
    first | rfl | simp [oneOr, sealDepth, sealV_int]
  · rw [decide_eq_true h4, decide_eq_false h5]
    simp -implicitDefEqProofs only [Tryd.f129,Wa,Wb,Wc,Wd,We,Wf,Wg,Wh,Wi,Wj,Wk,Wl,Wm,Wn,Zo,Zp,evalT,Nat.reduceLT,Nat.reduceEqDiff,if_true,if_false,reduceIte,Ys,ofVal,ofCell,argT,resT,setT,Y0,Int.reduceEq,Int.reduceLT,Int.reduceLE,Int.reduceNeg,mb,Nat.reduceBEq,tys,stb,empty_mk,g1,g2,hm1,hm2,g3,h3',h4,h5]
    first | rfl | simp [oneOr, sealDepth, sealV_int]
  · rw [decide_eq_false h4, decide_eq_true h5]
    simp -implicitDefEqProofs only [Tryd.f129,Wa,Wb,Wc,Wd,We,Wf,Wg,Wh,Wi,Wj,Wk,Wl,Wm,Wn,Zo,Zp,evalT,Nat.reduceLT,Nat.reduceEqDiff,if_true,if_false,reduceIte,Ys,ofVal,ofCell,argT,resT,setT,Y0,Int.reduceEq,Int.reduceLT,Int.reduceLE,Int.reduceNeg,mb,Nat.reduceBEq,tys,stb,empty_mk,g1,g2,hm1,hm2,g3,h3',h4,h5]
    first | rfl | simp [oneOr, sealDepth, sealV_int]
  · rw [decide_eq_false h4, decide_eq_false h5]
    simp -implicitDefEqProofs only [Tryd.f129,Wa,Wb,Wc,Wd,We,Wf,Wg,Wh,Wi,Wj,Wk,Wl,Wm,Wn,Zo,Zp,evalT,Nat.reduceLT,Nat.reduceEqDiff,if_true,if_false,reduceIte,Ys,ofVal,ofCell,argT,resT,setT,Y0,Int.reduceEq,Int.reduceLT,Int.reduceLE,Int.reduceNeg,mb,Nat.reduceBEq,tys,stb,empty_mk,g1,g2,hm1,hm2,g3,h3',h4,h5]
    first | rfl | simp [oneOr, sealDepth, sealV_int]
end Go.Proofs.YtcjapamldllleaaDoor
namespace Go.Proofs.YtcjapamldllleaaDoor
open Go.Ab
set_option maxHeartbeats 4000000
set_option maxRecDepth 100000
set_option linter.unusedSimpArgs false
set_option linter.unusedVariables false
def opV (op : Int) (xs : List Int) : Int :=
  if op = 4 then limI (wr (xs.getD 0 0 + xs.getD 1 0))
  else if op = 5 then limI (wr (xs.getD 0 0 - xs.getD 1 0))
  else if op = 6 then timesI (xs.getD 0 0) (xs.getD 1 0)
  else if op = 7 then wr (0 - xs.getD 0 0)
  else if op = 8 then (if xs.getD 0 0 = 1 then xs.getD 1 0 else xs.getD 2 0)
  else if op = 9 then bitI (decide (xs.getD 0 0 = xs.getD 1 0))
  else if op = 10 then bitI (decide (¬ xs.getD 0 0 = xs.getD 1 0))
  else if op = 11 then bitI (decide (xs.getD 0 0 < xs.getD 1 0))
  else if op = 12 then bitI (decide (xs.getD 0 0 ≤ xs.getD 1 0))
  else if op = 13 then bitI (decide (xs.getD 1 0 < xs.getD 0 0))
  else if op = 14 then bitI (decide (xs.getD 1 0 ≤ xs.getD 0 0))
  else if op = 15 then minI (xs.getD 0 0) (xs.getD 1 0)
  else if op = 16 then maxI (xs.getD 0 0) (xs.getD 1 0)
  else wr (1 - xs.getD 0 0)
theorem vBin_and01 (us : Option TypeDesc) (cc : Bool) {a b : Int} (ha : Bit a) (hb : Bit b) : vBinT us cc .and (.int .i64 a) (.int .i64 b) = some (.int .i64 (minI a b)) := by
  have h : vBin .and (.int .i64 a) (.int .i64 b) = some (.int .i64 (minI a b)) := by
    rcases ha with rfl | rfl <;> rcases hb with rfl | rfl <;> rfl
  unfold vBinT
  rw [h]
theorem vBin_or01 (us : Option TypeDesc) (cc : Bool) {a b : Int} (ha : Bit a) (hb : Bit b) : vBinT us cc .or (.int .i64 a) (.int .i64 b) = some (.int .i64 (maxI a b)) := by
  have h : vBin .or (.int .i64 a) (.int .i64 b) = some (.int .i64 (maxI a b)) := by
    rcases ha with rfl | rfl <;> rcases hb with rfl | rfl <;> rfl
  unfold vBinT
  rw [h]
theorem closed_ri (xs : List Int) : (V.row (xs.map (V.int .i64)) xs.length .unk).closed = true := closed_I (.inr (.inl rfl))
def Ops2 (op : Int) : Prop := 4 ≤ op ∧ op ≤ 17 ∧ op ≠ 7 ∧ op ≠ 8 ∧ op ≠ 17
theorem apply2_call (a : V) (ha : a.closed = true) (op : Int) (ho : Ops2 op) (x y : Int) (hy : In64 y) (hbit : op = 15 ∨ op = 16 → Bit x ∧ Bit y) (σ : S) : callFn env (ev env) 125 [a, .int .i64 op, .row [.int .i64 x, .int .i64 y] 2 .unk] σ = some (.int .i64 (opV op [x, y]), σ) := by
  refine callFn_pure rfl rfl (by simp [ha, V.closed, V.closed.closedL]) at125 rfl (by simp [Tryd.f125]) (by simp [Tryd.f125]) (G_start ?_) σ
  have i0 : vIndexAddr 1 (.row [.int .i64 x, .int .i64 y] 2 .unk) (.int .i64 0) = some (.rptr [.int .i64 x, .int .i64 y]) := rfl
  have i1 : vIndexAddr 1 (.row [.int .i64 x, .int .i64 y] 2 .unk) (.int .i64 1) = some (.rptr [.int .i64 y]) := rfl
  have hL := limit_call
  have hT := times_call x y hy
  have hB := bit_call
  obtain ⟨h1, h2, h3, h4, h5⟩ := ho
  have h : op = 4 ∨ op = 5 ∨ op = 6 ∨ op = 9 ∨ op = 10 ∨ op = 11 ∨ op = 12 ∨ op = 13 ∨ op = 14 ∨ op = 15 ∨ op = 16 := by omega
  rcases h with rfl | rfl | rfl | rfl | rfl | rfl | rfl | rfl | rfl | rfl | rfl
  · simp -implicitDefEqProofs only [Tryd.f125,Wa,Wb,Wc,Wd,We,Wf,Wg,Wh,Wi,Wj,Wk,Wl,Wm,Wn,Zo,Zp,evalT,Nat.reduceLT,Nat.reduceEqDiff,if_true,if_false,reduceIte,Ys,ofVal,ofCell,argT,resT,setT,Y0,Int.reduceEq,Int.reduceLT,Int.reduceLE,Int.reduceNeg,mb,Nat.reduceBEq,tys,stb,tysn,empty_mk,-Ys,-Y0,i0,i1,load_hd,hL,hT,hB]
    rfl
  · simp -implicitDefEqProofs only [Tryd.f125,Wa,Wb,Wc,Wd,We,Wf,Wg,Wh,Wi,Wj,Wk,Wl,Wm,Wn,Zo,Zp,evalT,Nat.reduceLT,Nat.reduceEqDiff,if_true,if_false,reduceIte,Ys,ofVal,ofCell,argT,resT,setT,Y0,Int.reduceEq,Int.reduceLT,Int.reduceLE,Int.reduceNeg,mb,Nat.reduceBEq,tys,stb,tysn,empty_mk,-Ys,-Y0,i0,i1,load_hd,hL,hT,hB]
    rfl
  · simp -implicitDefEqProofs only [Tryd.f125,Wa,Wb,Wc,Wd,We,Wf,Wg,Wh,Wi,Wj,Wk,Wl,Wm,Wn,Zo,Zp,evalT,Nat.reduceLT,Nat.reduceEqDiff,if_true,if_false,reduceIte,Ys,ofVal,ofCell,argT,resT,setT,Y0,Int.reduceEq,Int.reduceLT,Int.reduceLE,Int.reduceNeg,mb,Nat.reduceBEq,tys,stb,tysn,empty_mk,-Ys,-Y0,i0,i1,load_hd,hL,hT,hB]
    rfl
  · simp -implicitDefEqProofs only [Tryd.f125,Wa,Wb,Wc,Wd,We,Wf,Wg,Wh,Wi,Wj,Wk,Wl,Wm,Wn,Zo,Zp,evalT,Nat.reduceLT,Nat.reduceEqDiff,if_true,if_false,reduceIte,Ys,ofVal,ofCell,argT,resT,setT,Y0,Int.reduceEq,Int.reduceLT,Int.reduceLE,Int.reduceNeg,mb,Nat.reduceBEq,tys,stb,tysn,empty_mk,-Ys,-Y0,i0,i1,load_hd,hL,hT,hB]
    rfl
  · simp -implicitDefEqProofs only [Tryd.f125,Wa,Wb,Wc,Wd,We,Wf,Wg,Wh,Wi,Wj,Wk,Wl,Wm,Wn,Zo,Zp,evalT,Nat.reduceLT,Nat.reduceEqDiff,if_true,if_false,reduceIte,Ys,ofVal,ofCell,argT,resT,setT,Y0,Int.reduceEq,Int.reduceLT,Int.reduceLE,Int.reduceNeg,mb,Nat.reduceBEq,tys,stb,tysn,empty_mk,-Ys,-Y0,i0,i1,load_hd,hL,hT,hB]
    rfl
  · simp -implicitDefEqProofs only [Tryd.f125,Wa,Wb,Wc,Wd,We,Wf,Wg,Wh,Wi,Wj,Wk,Wl,Wm,Wn,Zo,Zp,evalT,Nat.reduceLT,Nat.reduceEqDiff,if_true,if_false,reduceIte,Ys,ofVal,ofCell,argT,resT,setT,Y0,Int.reduceEq,Int.reduceLT,Int.reduceLE,Int.reduceNeg,mb,Nat.reduceBEq,tys,stb,tysn,empty_mk,-Ys,-Y0,i0,i1,load_hd,hL,hT,hB]
    rfl
  · simp -implicitDefEqProofs only [Tryd.f125,Wa,Wb,Wc,Wd,We,Wf,Wg,Wh,Wi,Wj,Wk,Wl,Wm,Wn,Zo,Zp,evalT,Nat.reduceLT,Nat.reduceEqDiff,if_true,if_false,reduceIte,Ys,ofVal,ofCell,argT,resT,setT,Y0,Int.reduceEq,Int.reduceLT,Int.reduceLE,Int.reduceNeg,mb,Nat.reduceBEq,tys,stb,tysn,empty_mk,-Ys,-Y0,i0,i1,load_hd,hL,hT,hB]
    rfl
  · simp -implicitDefEqProofs only [Tryd.f125,Wa,Wb,Wc,Wd,We,Wf,Wg,Wh,Wi,Wj,Wk,Wl,Wm,Wn,Zo,Zp,evalT,Nat.reduceLT,Nat.reduceEqDiff,if_true,if_false,reduceIte,Ys,ofVal,ofCell,argT,resT,setT,Y0,Int.reduceEq,Int.reduceLT,Int.reduceLE,Int.reduceNeg,mb,Nat.reduceBEq,tys,stb,tysn,empty_mk,-Ys,-Y0,i0,i1,load_hd,hL,hT,hB]
    rfl
  · simp -implicitDefEqProofs only [Tryd.f125,Wa,Wb,Wc,Wd,We,Wf,Wg,Wh,Wi,Wj,Wk,Wl,Wm,Wn,Zo,Zp,evalT,Nat.reduceLT,Nat.reduceEqDiff,if_true,if_false,reduceIte,Ys,ofVal,ofCell,argT,resT,setT,Y0,Int.reduceEq,Int.reduceLT,Int.reduceLE,Int.reduceNeg,mb,Nat.reduceBEq,tys,stb,tysn,empty_mk,-Ys,-Y0,i0,i1,load_hd,hL,hT,hB]
    rfl
  · obtain ⟨bx, by'⟩ := hbit (by decide)
    simp -implicitDefEqProofs only [Tryd.f125,Wa,Wb,Wc,Wd,We,Wf,Wg,Wh,Wi,Wj,Wk,Wl,Wm,Wn,Zo,Zp,evalT,Nat.reduceLT,Nat.reduceEqDiff,if_true,if_false,reduceIte,Ys,ofVal,ofCell,argT,resT,setT,Y0,Int.reduceEq,Int.reduceLT,Int.reduceLE,Int.reduceNeg,mb,Nat.reduceBEq,tys,stb,tysn,empty_mk,-Ys,-Y0,i0,i1,load_hd,hL,hT,hB,vBin_and01 _ _ bx by']
    rfl
  · obtain ⟨bx, by'⟩ := hbit (by decide)
    simp -implicitDefEqProofs only [Tryd.f125,Wa,Wb,Wc,Wd,We,Wf,Wg,Wh,Wi,Wj,Wk,Wl,Wm,Wn,Zo,Zp,evalT,Nat.reduceLT,Nat.reduceEqDiff,if_true,if_false,reduceIte,Ys,ofVal,ofCell,argT,resT,setT,Y0,Int.reduceEq,Int.reduceLT,Int.reduceLE,Int.reduceNeg,mb,Nat.reduceBEq,tys,stb,tysn,empty_mk,-Ys,-Y0,i0,i1,load_hd,hL,hT,hB,vBin_or01 _ _ bx by']
    rfl
theorem apply1_call (a : V) (ha : a.closed = true) (op : Int) (ho : op = 7 ∨ op = 17) (x : Int) (σ : S) : callFn env (ev env) 125 [a, .int .i64 op, .row [.int .i64 x] 1 .unk] σ = some (.int .i64 (opV op [x]), σ) := by
  refine callFn_pure rfl rfl (by simp [ha, V.closed, V.closed.closedL]) at125 rfl (by simp [Tryd.f125]) (by simp [Tryd.f125]) (G_start ?_) σ
  have i0 : vIndexAddr 1 (.row [.int .i64 x] 1 .unk) (.int .i64 0) = some (.rptr [.int .i64 x]) := rfl
  rcases ho with rfl | rfl
  · simp -implicitDefEqProofs only [Tryd.f125,Wa,Wb,Wc,Wd,We,Wf,Wg,Wh,Wi,Wj,Wk,Wl,Wm,Wn,Zo,Zp,evalT,Nat.reduceLT,Nat.reduceEqDiff,if_true,if_false,reduceIte,Ys,ofVal,ofCell,argT,resT,setT,Y0,Int.reduceEq,Int.reduceLT,Int.reduceLE,Int.reduceNeg,mb,Nat.reduceBEq,tys,stb,tysn,empty_mk,-Ys,-Y0,i0,load_hd]
    rfl
  · simp -implicitDefEqProofs only [Tryd.f125,Wa,Wb,Wc,Wd,We,Wf,Wg,Wh,Wi,Wj,Wk,Wl,Wm,Wn,Zo,Zp,evalT,Nat.reduceLT,Nat.reduceEqDiff,if_true,if_false,reduceIte,Ys,ofVal,ofCell,argT,resT,setT,Y0,Int.reduceEq,Int.reduceLT,Int.reduceLE,Int.reduceNeg,mb,Nat.reduceBEq,tys,stb,tysn,empty_mk,-Ys,-Y0,i0,load_hd]
    rfl
theorem apply3_call (a : V) (ha : a.closed = true) (x y z : Int) (hx : Bit x) (σ : S) : callFn env (ev env) 125 [a, .int .i64 8, .row [.int .i64 x, .int .i64 y, .int .i64 z] 3 .unk] σ = some (.int .i64 (opV 8 [x, y, z]), σ) := by
  refine callFn_pure rfl rfl (by simp [ha, V.closed, V.closed.closedL]) at125 rfl (by simp [Tryd.f125]) (by simp [Tryd.f125]) (G_start ?_) σ
  have i0 : vIndexAddr 1 (.row [.int .i64 x, .int .i64 y, .int .i64 z] 3 .unk) (.int .i64 0) = some (.rptr [.int .i64 x, .int .i64 y, .int .i64 z]) := rfl
  have i1 : vIndexAddr 1 (.row [.int .i64 x, .int .i64 y, .int .i64 z] 3 .unk) (.int .i64 1) = some (.rptr [.int .i64 y, .int .i64 z]) := rfl
  have i2 : vIndexAddr 1 (.row [.int .i64 x, .int .i64 y, .int .i64 z] 3 .unk) (.int .i64 2) = some (.rptr [.int .i64 z]) := rfl
  rcases hx with rfl | rfl
  · have e1 : IntKind.i64.wrap (2 - 0) = 2 := by decide
    simp -implicitDefEqProofs only [Tryd.f125,Wa,Wb,Wc,Wd,We,Wf,Wg,Wh,Wi,Wj,Wk,Wl,Wm,Wn,Zo,Zp,evalT,Nat.reduceLT,Nat.reduceEqDiff,if_true,if_false,reduceIte,Ys,ofVal,ofCell,argT,resT,setT,Y0,Int.reduceEq,Int.reduceLT,Int.reduceLE,Int.reduceNeg,mb,Nat.reduceBEq,tys,stb,tysn,empty_mk,-Ys,-Y0,i0,e1,i2,load_hd]
    rfl
  · have e1 : IntKind.i64.wrap (2 - 1) = 1 := by decide
    simp -implicitDefEqProofs only [Tryd.f125,Wa,Wb,Wc,Wd,We,Wf,Wg,Wh,Wi,Wj,Wk,Wl,Wm,Wn,Zo,Zp,evalT,Nat.reduceLT,Nat.reduceEqDiff,if_true,if_false,reduceIte,Ys,ofVal,ofCell,argT,resT,setT,Y0,Int.reduceEq,Int.reduceLT,Int.reduceLE,Int.reduceNeg,mb,Nat.reduceBEq,tys,stb,tysn,empty_mk,-Ys,-Y0,i0,e1,i1,load_hd]
    rfl
end Go.Proofs.YtcjapamldllleaaDoor
namespace Go.Proofs.YtcjapamldllleaaDoor
open Go.Ab
set_option maxHeartbeats 4000000
set_option maxRecDepth 100000
set_option linter.unusedSimpArgs false
set_option linter.unusedVariables false
theorem at74 : env.P.funcs[74]? = some Tryd.f74 := by kernel_rfl
theorem namedE_call (nm : List UInt8) (d : Col) (L : List AObj) (ts : List Nat) (p : Nat) (hp : L[p]? = some (.cells [.str nm] 9)) :
    callFn env (ev env) 74 [.agg [.str d.name, .int .i64 d.lo, .int .i64 d.hi, d.w], .ptr p 0] ⟨L, ts⟩ = some (.bool (decide (d.name = nm)), ⟨L ++ [.cells [.str d.name, .int .i64 d.lo, .int .i64 d.hi, d.w] 46], ts⟩) := by
  refine callFn_eq rfl rfl at74 rfl (by simp [Tryd.f74]) (by simp [Tryd.f74]) ?_
  refine G_start ?_
  by_cases h : d.name = nm <;>
  · simp -implicitDefEqProofs only [Tryd.f74,Wa,Wb,Wc,Wd,We,Wf,Wg,Wh,Wi,Wj,Wk,Wl,Wm,Wn,Zo,Zp,evalT,Nat.reduceLT,Nat.reduceEqDiff,if_true,if_false,reduceIte,Ys,ofVal,ofCell,argT,resT,setT,Y0,Int.reduceEq,Int.reduceLT,Int.reduceLE,Int.reduceNeg,mb,Nat.reduceBEq,tys,stb,tys2,YW,heap_end,get_app hp,vBin_seql,h]
    simp [oneOr, h]
theorem indexE_call (nm : List UInt8) (dv : V) (ds : List Col) (hd : IsC dv ds) (ok : OkC ds) (hl : ds.length ≤ 1000) (L : List AObj) (ts : List Nat) (p : Nat) (hp : L[p]? = some (.cells [.str nm] 9)) :
    ∃ X, callFn env (ev env) 72 [dv, .func 74 [] [.ptr p 0]] ⟨L, ts⟩ = some (.int .i64 (seekC ds nm ds.length 0), ⟨L ++ X, ts⟩) := by
  suffices h : ∃ v σ', callFn env (ev env) 72 [dv, .func 74 [] [.ptr p 0]] ⟨L, ts⟩ = some (v, σ') ∧ (v = .int .i64 (seekC ds nm ds.length 0) ∧ ∃ X, σ' = ⟨L ++ X, ts⟩) by
    obtain ⟨v, σ', h1, rfl, X, rfl⟩ := h
    exact ⟨X, h1⟩
  refine callFn_any rfl rfl at72 rfl (by simp [Tryd.f72]) (by simp [Tryd.f72]) (G_start ?_)
  simp -implicitDefEqProofs only [Tryd.f72,Wa,Wb,Wc,Wd,We,Wf,Wg,Wh,Wi,Wj,Wk,Wl,Wm,Wn,Zo,Zp,evalT,Nat.reduceLT,Nat.reduceEqDiff,if_true,if_false,reduceIte,Ys,ofVal,ofCell,argT,resT,setT,Y0,Int.reduceEq,Int.reduceLT,Int.reduceLE,Int.reduceNeg,mb,Nat.reduceBEq,tys,stb,tys2,len_C hd]
  refine loop_rule (fun m T D σ => D = [] ∧ T 0 = dv ∧ T 1 = .func 74 [] [.ptr p 0] ∧ T 7 = .int .i64 ds.length ∧ ∃ (i : Nat) (X : List AObj), σ = ⟨L ++ X, ts⟩ ∧ T 8 = .int .i64 i ∧ i ≤ ds.length ∧ m = ds.length - i ∧ seekC ds nm ds.length 0 = seekC ds nm (ds.length - i) i) ?_ _ _ _ _ ⟨rfl, rfl, rfl, rfl, 0, [], by simp, rfl, by omega, rfl, rfl⟩
  rintro m T D σ ⟨rfl, t0, t1, t7, i, X, rfl, t8, hi, rfl, hf⟩
  refine G_start ?_
  by_cases hlt : i < ds.length
  · have c1 : (i : Int) < (ds.length : Int) := by omega
    have e1 : IntKind.i64.wrap ((i : Int) + 1) = ((i + 1 : Nat) : Int) := by rw [wrap_i64 (by omega) (by omega)]; omega
    have hx := idx_C hd hlt
    have hN := namedE_call nm (ds.getD i Col.none) (L ++ X) ts p (get_app hp X)
    unfold seekC at hf
    rw [firstQ_step hlt] at hf
    by_cases hn : (ds.getD i Col.none).name = nm
    · rw [if_pos (decide_eq_true hn)] at hf
      simp only [hn, decide_true] at hN
      simp -implicitDefEqProofs only [Wa,Wb,Wc,Wd,We,Wf,Wg,Wh,Wi,Wj,Wk,Wl,Wm,Wn,Zo,Zp,evalT,Nat.reduceLT,Nat.reduceEqDiff,if_true,if_false,reduceIte,Ys,ofVal,ofCell,argT,resT,setT,Y0,Int.reduceEq,Int.reduceLT,Int.reduceLE,Int.reduceNeg,mb,Nat.reduceBEq,tys,stb,tys2,t0,t1,t7,t8,c1,e1,hx,agg44,load4_rptr,hn,hN]
      exact ⟨by rw [seekC, hf]; rfl, _, by rw [List.append_assoc]⟩
    · rw [if_neg (by simp only [decide_eq_true_eq]; exact hn)] at hf
      simp only [hn, decide_false] at hN
      simp -implicitDefEqProofs only [Wa,Wb,Wc,Wd,We,Wf,Wg,Wh,Wi,Wj,Wk,Wl,Wm,Wn,Zo,Zp,evalT,Nat.reduceLT,Nat.reduceEqDiff,if_true,if_false,reduceIte,Ys,ofVal,ofCell,argT,resT,setT,Y0,Int.reduceEq,Int.reduceLT,Int.reduceLE,Int.reduceNeg,mb,Nat.reduceBEq,tys,stb,tys2,t0,t1,t7,t8,c1,e1,hx,agg44,load4_rptr,hN]
      exact ⟨ds.length - (i + 1), by omega, i + 1, _, by rw [List.append_assoc], rfl, by omega, rfl, hf⟩
  · have hi2 : i = ds.length := by omega
    subst hi2
    have c1 : ¬ (ds.length : Int) < (ds.length : Int) := by omega
    rw [Nat.sub_self] at hf
    simp -implicitDefEqProofs only [Wa,Wb,Wc,Wd,We,Wf,Wg,Wh,Wi,Wj,Wk,Wl,Wm,Wn,Zo,Zp,evalT,Nat.reduceLT,Nat.reduceEqDiff,if_true,if_false,reduceIte,Ys,ofVal,ofCell,argT,resT,setT,Y0,Int.reduceEq,Int.reduceLT,Int.reduceLE,Int.reduceNeg,mb,Nat.reduceBEq,tys,stb,t0,t1,t7,t8,c1]
    exact ⟨by rw [hf]; rfl, X, rfl⟩
theorem at52 : env.P.funcs[52]? = some Tryd.f52 := by kernel_rfl
theorem indexS_call (cv : V) (cs : List Col) (hc : IsC cv cs) (ok : OkC cs) (hl : cs.length ≤ 1000) (nm : List UInt8) (σ : S) : callFn env (ev env) 52 [cv, .str nm] σ = some (.int .i64 (seekK cs nm), σ) := by
  refine callFn_pure rfl rfl (by simp [V.closed, V.closed.closedL, closed_C hc ok]) at52 rfl (by simp [Tryd.f52]) (by simp [Tryd.f52]) (G_start ?_) σ
  obtain ⟨X, hX⟩ := indexE_call nm cv cs hc ok hl [.cells [.str nm] 9] [] 0 rfl
  simp -implicitDefEqProofs only [Tryd.f52,Wa,Wb,Wc,Wd,We,Wf,Wg,Wh,Wi,Wj,Wk,Wl,Wm,Wn,Zo,Zp,evalT,Nat.reduceLT,Nat.reduceEqDiff,if_true,if_false,reduceIte,Ys,ofVal,ofCell,argT,resT,setT,Y0,Int.reduceEq,Int.reduceLT,Int.reduceLE,Int.reduceNeg,mb,Nat.reduceBEq,tys,stb,tys2,empty_mk,hX,show (V.str nm).cells = [.str nm] from rfl]
  rfl
theorem at54 : env.P.funcs[54]? = some Tryd.f54 := by kernel_rfl
def arI (op : Int) : Int := if op = 7 ∨ op = 17 then 1 else if op = 8 then 3 else 2
theorem arity_call (op : Int) (σ : S) : callFn env (ev env) 54 [.int .i64 op] σ = some (.int .i64 (arI op), σ) := by
  refine callFn_pure rfl rfl rfl at54 rfl (by simp [Tryd.f54]) (by simp [Tryd.f54]) (G_start ?_) σ
  unfold arI
  by_cases h1 : op = 7
  · subst h1
    simp -implicitDefEqProofs only [Tryd.f54,Wa,Wb,Wc,Wd,We,Wf,Wg,Wh,Wi,Wj,Wk,Wl,Wm,Wn,Zo,Zp,evalT,Nat.reduceLT,Nat.reduceEqDiff,if_true,if_false,reduceIte,Ys,ofVal,ofCell,argT,resT,setT,Y0,Int.reduceEq,Int.reduceLT,Int.reduceLE,Int.reduceNeg,mb,Nat.reduceBEq,tys,stb,empty_mk]
    rfl
  by_cases h2 : op = 17
  · subst h2
    simp -implicitDefEqProofs only [Tryd.f54,Wa,Wb,Wc,Wd,We,Wf,Wg,Wh,Wi,Wj,Wk,Wl,Wm,Wn,Zo,Zp,evalT,Nat.reduceLT,Nat.reduceEqDiff,if_true,if_false,reduceIte,Ys,ofVal,ofCell,argT,resT,setT,Y0,Int.reduceEq,Int.reduceLT,Int.reduceLE,Int.reduceNeg,mb,Nat.reduceBEq,tys,stb,empty_mk]
    rfl
  rw [if_neg (by rintro (h | h) <;> contradiction)]
  have g1 : ((op : Int) = 7) = False := eq_false h1
  have g2 : ((op : Int) = 17) = False := eq_false h2
  by_cases h3 : op = 8
  · subst h3
    simp -implicitDefEqProofs only [Tryd.f54,Wa,Wb,Wc,Wd,We,Wf,Wg,Wh,Wi,Wj,Wk,Wl,Wm,Wn,Zo,Zp,evalT,Nat.reduceLT,Nat.reduceEqDiff,if_true,if_false,reduceIte,Ys,ofVal,ofCell,argT,resT,setT,Y0,Int.reduceEq,Int.reduceLT,Int.reduceLE,Int.reduceNeg,mb,Nat.reduceBEq,tys,stb,empty_mk]
    rfl
  · have g3 : ((op : Int) = 8) = False := eq_false h3
    simp -implicitDefEqProofs only [Tryd.f54,Wa,Wb,Wc,Wd,We,Wf,Wg,Wh,Wi,Wj,Wk,Wl,Wm,Wn,Zo,Zp,evalT,Nat.reduceLT,Nat.reduceEqDiff,if_true,if_false,reduceIte,Ys,ofVal,ofCell,argT,resT,setT,Y0,Int.reduceEq,Int.reduceLT,Int.reduceLE,Int.reduceNeg,mb,Nat.reduceBEq,tys,stb,empty_mk,g1,g2,g3]
    rfl
theorem at126 : env.P.funcs[126]? = some Tryd.f126 := by kernel_rfl
theorem at127 : env.P.funcs[127]? = some Tryd.f127 := by kernel_rfl
theorem u62 : env.P.underlying 62 = some (.slice 3) := by kernel_rfl
theorem colval_call (xv : V) (xs : List Int) (hx : IsI xv xs) (i : Nat) (hi : i < xs.length) (σ : S) : callFn env (ev env) 126 [xv, .int .i64 i] σ = some (.int .i64 (xs.getD i 0), σ) := by
  refine callFn_pure rfl rfl (by simp [V.closed, V.closed.closedL, closed_I hx]) at126 rfl (by simp [Tryd.f126]) (by simp [Tryd.f126]) (G_start ?_) σ
  have hi2 := idx_I hx hi
  simp -implicitDefEqProofs only [Tryd.f126,Wa,Wb,Wc,Wd,We,Wf,Wg,Wh,Wi,Wj,Wk,Wl,Wm,Wn,Zo,Zp,evalT,Nat.reduceLT,Nat.reduceEqDiff,if_true,if_false,reduceIte,Ys,ofVal,ofCell,argT,resT,setT,Y0,Int.reduceEq,Int.reduceLT,Int.reduceLE,Int.reduceNeg,mb,Nat.reduceBEq,tys,stb,tysn,u62,empty_mk,hi2,load_hd]
  rfl
theorem number_call (xv : V) (hc : xv.closed = true) (n : Int) (σ : S) : callFn env (ev env) 127 [xv, .int .i64 n] σ = some (.int .i64 n, σ) := by
  refine callFn_pure rfl rfl (by simp [V.closed, V.closed.closedL, hc]) at127 rfl (by simp [Tryd.f127]) (by simp [Tryd.f127]) (G_start ?_) σ
  simp -implicitDefEqProofs only [Tryd.f127,Wa,Wb,Wc,Wd,We,Wf,Wg,Wh,Wi,Wj,Wk,Wl,Wm,Wn,Zo,Zp,evalT,Nat.reduceLT,Nat.reduceEqDiff,if_true,if_false,reduceIte,Ys,ofVal,ofCell,argT,resT,setT,Y0,Int.reduceEq,Int.reduceLT,Int.reduceLE,Int.reduceNeg,mb,Nat.reduceBEq,tys,stb,empty_mk]
  rfl
theorem meth_num (xv : V) : methV env (.iface 62 xv) "privhouse/span.number" = some (127, xv) := by kernel_rfl
theorem meth_col (xv : V) : methV env (.iface 62 xv) "privhouse/span.column" = some (126, xv) := by kernel_rfl
theorem meth_app (xv : V) : methV env (.iface 62 xv) "privhouse/span.apply" = some (125, xv) := by kernel_rfl
theorem at55 : env.P.funcs[55]? = some Tryd.f55 := by kernel_rfl
theorem clone_call (b off n cap : Nat) (ex : HCap) (l : List Int) (L : List AObj) (ts : List Nat) (hn : l.length = n) (h0 : 0 < n) (hlim : n ≤ 4000) (hc : vCells L 1 n (.hsl b off n cap ex) = some (l.map (V.int .i64))) :
    callFn env (ev env) 55 [.hsl b off n cap ex] ⟨L, ts⟩ = some (.row (l.map (V.int .i64)) n (.tok ts.length 0 1), ⟨L, ts ++ [0]⟩) := by
  refine callFn_eq rfl rfl at55 rfl (by simp [Tryd.f55]) (by simp [Tryd.f55]) (G_start ?_)
  have ha : appO env false ⟨L, ts⟩ 24 24 (.row [] 0 .full) (.hsl b off n cap ex) = some (.row (l.map (V.int .i64)) n (.tok ts.length 0 1), ⟨L, ts ++ [0]⟩) := by
    have e24 : elemS env 24 = some 3 := by kernel_rfl
    have s3 : sz env 3 = some 1 := by kernel_rfl
    have b3 : bys env 3 = some 8 := by kernel_rfl
    have z3 : zeroN env 3 = some 1 := by kernel_rfl
    have hlim2 : n * 8 ≤ lim ∧ n ≤ lim := by have : lim = 2 ^ 40 := rfl; rw [this]; omega
    have hcell : (l.map (V.int .i64)).all V.isCell = true := by rw [List.all_eq_true]; intro x hx; obtain ⟨y, _, rfl⟩ := List.mem_map.1 hx; rfl
    unfold appO
    simp only [e24, s3, b3, z3, u24i, Option.bind_some, vLen, hc, if_true, aappend]
    rw [if_neg (by omega), if_pos ⟨by omega, by omega, by simp, hcell⟩]
    simp
  have hq : ∀ c, binO env 24 c .eql (some (.hsl b off n cap ex)) (some .nilsl) = some (.bool false) := fun c => by kernel_rfl
  have hr : rowO env 24 0 [] = some (.row [] 0 .full) := by kernel_rfl
  simp -implicitDefEqProofs only [Tryd.f55,Wa,Wb,Wc,Wd,We,Wf,Wg,Wh,Wi,Wj,Wk,Wl,Wm,Wn,Zo,Zp,evalT,Nat.reduceLT,Nat.reduceEqDiff,if_true,if_false,reduceIte,Ys,ofVal,ofCell,argT,resT,setT,Y0,Int.reduceEq,Int.reduceLT,Int.reduceLE,Int.reduceNeg,mb,Nat.reduceBEq,tys,stb,Va,storeList,Nat.reduceAdd,Nat.reduceLeDiff,tysn,opT_rowO,hr,ha,hq]
  exact ⟨rfl, trivial⟩
end Go.Proofs.YtcjapamldllleaaDoor
namespace Go.Proofs.YtcjapamldllleaaDoor
open Go.Ab
set_option maxHeartbeats 4000000
set_option maxRecDepth 100000
set_option linter.unusedSimpArgs false
set_option linter.unusedVariables false
def Ty (k x : Int) : Prop := In64 x ∧ (k = 1 → Bit x)
def Tys : List Int → List Int → Prop
  | [], [] => True
  | k :: ks, x :: xs => Ty k x ∧ Tys ks xs
  | _, _ => False
theorem Tys.len : ∀ {ks xs : List Int}, Tys ks xs → ks.length = xs.length
  | [], [], _ => rfl
  | _ :: _, _ :: _, h => by simp [Tys.len h.2]
  | [], _ :: _, h => h.elim
  | _ :: _, [], h => h.elim
theorem Tys.app : ∀ {a x b y : List Int}, Tys a x → Tys b y → Tys (a ++ b) (x ++ y)
  | [], [], _, _, _, h => h
  | _ :: _, _ :: _, _, _, h, g => ⟨h.1, Tys.app h.2 g⟩
  | [], _ :: _, _, _, h, _ => h.elim
  | _ :: _, [], _, _, h, _ => h.elim
theorem Tys.split : ∀ {a b v : List Int}, Tys (a ++ b) v → ∃ x y, v = x ++ y ∧ Tys a x ∧ Tys b y
  | [], b, v, h => ⟨[], v, rfl, trivial, h⟩
  | k :: a, b, x :: v, h => by
    obtain ⟨p, q, rfl, h1, h2⟩ := Tys.split h.2
    exact ⟨x :: p, q, rfl, ⟨h.1, h1⟩, h2⟩
  | _ :: _, _, [], h => h.elim
theorem popN_eq {st want ys : List Int} (h : popN st want = some ys) : st = ys ++ want := by
  unfold popN at h
  split at h
  · rename_i hc
    simp only [Option.some.injEq] at h
    rw [← h, ← hc.2, hc.2]
    conv => lhs; rw [← List.take_append_drop (st.length - want.length) st, hc.2]
  · simp at h
theorem in01 {x : Int} (h : Bit x) : In64 x := by rcases h with rfl | rfl <;> simp [In64]
theorem bitI_bit (p : Bool) : Bit (bitI p) := by cases p <;> simp [bitI, Bit]
theorem limI_in (n : Int) : In64 (limI n) := by
  unfold limI In64 maxI minI
  split <;> split <;> omega
theorem timesI_in (a b : Int) : In64 (timesI a b) := by
  unfold timesI
  repeat' split
  all_goals first | exact wr_in _ | (simp [In64])
theorem Tys.one {k : Int} {v : List Int} (h : Tys [k] v) : ∃ x, v = [x] ∧ Ty k x := by
  match v, h with
  | [x], h => exact ⟨x, rfl, h.1⟩
theorem Tys.two {k j : Int} {v : List Int} (h : Tys [k, j] v) : ∃ x y, v = [x, y] ∧ Ty k x ∧ Ty j y := by
  match v, h with
  | [x, y], h => exact ⟨x, y, rfl, h.1, h.2.1⟩
theorem Tys.three {k j i : Int} {v : List Int} (h : Tys [k, j, i] v) : ∃ x y z, v = [x, y, z] ∧ Ty k x ∧ Ty j y ∧ Ty i z := by
  match v, h with
  | [x, y, z], h => exact ⟨x, y, z, rfl, h.1, h.2.1, h.2.2.1⟩
theorem opV_ty {op : Int} (h1 : 4 ≤ op) (h2 : op ≤ 17) {v : List Int} (h : Tys (takesN op).1 v) : Ty (takesN op).2 (opV op v) := by
  have ho : op = 4 ∨ op = 5 ∨ op = 6 ∨ op = 7 ∨ op = 8 ∨ op = 9 ∨ op = 10 ∨ op = 11 ∨ op = 12 ∨ op = 13 ∨ op = 14 ∨ op = 15 ∨ op = 16 ∨ op = 17 := by omega
  rcases ho with rfl | rfl | rfl | rfl | rfl | rfl | rfl | rfl | rfl | rfl | rfl | rfl | rfl | rfl
  · exact ⟨limI_in _, fun e => by simp [takesN] at e⟩
  · exact ⟨limI_in _, fun e => by simp [takesN] at e⟩
  · exact ⟨timesI_in _ _, fun e => by simp [takesN] at e⟩
  · exact ⟨wr_in _, fun e => by simp [takesN] at e⟩
  · obtain ⟨x, y, z, rfl, a, b, c⟩ := Tys.three h
    refine ⟨?_, fun e => by simp [takesN] at e⟩
    change In64 (if x = 1 then y else z)
    split
    · exact b.1
    · exact c.1
  · exact ⟨in01 (bitI_bit _), fun _ => bitI_bit _⟩
  · exact ⟨in01 (bitI_bit _), fun _ => bitI_bit _⟩
  · exact ⟨in01 (bitI_bit _), fun _ => bitI_bit _⟩
  · exact ⟨in01 (bitI_bit _), fun _ => bitI_bit _⟩
  · exact ⟨in01 (bitI_bit _), fun _ => bitI_bit _⟩
  · exact ⟨in01 (bitI_bit _), fun _ => bitI_bit _⟩
  · obtain ⟨x, y, rfl, a, b⟩ := Tys.two h
    have : Bit (minI x y) := by unfold minI; split; exact b.2 rfl; exact a.2 rfl
    exact ⟨in01 this, fun _ => this⟩
  · obtain ⟨x, y, rfl, a, b⟩ := Tys.two h
    have : Bit (maxI x y) := by unfold maxI; split; exact b.2 rfl; exact a.2 rfl
    exact ⟨in01 this, fun _ => this⟩
  · obtain ⟨x, rfl, a⟩ := Tys.one h
    have : Bit (wr (1 - x)) := by rcases a.2 rfl with rfl | rfl <;> simp [wr, Bit] <;> decide
    exact ⟨in01 this, fun _ => this⟩
theorem takes_ar {op : Int} (h1 : 4 ≤ op) (h2 : op ≤ 17) : (takesN op).1.length = (arI op).toNat ∧ 1 ≤ arI op ∧ arI op ≤ 3 := by
  have ho : op = 4 ∨ op = 5 ∨ op = 6 ∨ op = 7 ∨ op = 8 ∨ op = 9 ∨ op = 10 ∨ op = 11 ∨ op = 12 ∨ op = 13 ∨ op = 14 ∨ op = 15 ∨ op = 16 ∨ op = 17 := by omega
  rcases ho with rfl | rfl | rfl | rfl | rfl | rfl | rfl | rfl | rfl | rfl | rfl | rfl | rfl | rfl <;> decide
def wordV (l : List Nd) (i : Nat) (cs : List Col) : Int := placeW (colN cs (gN l (i - 1)).col).ws (gN l i).col (colN cs (gN l (i - 1)).col).ws.length 0
def stepV (l : List Nd) (i : Nat) (cs : List Col) (xs vs : List Int) : List Int :=
  if (gN l i).op = 1 then vs ++ [(gN l i).n]
  else if (gN l i).op = 2 then vs ++ [xs.getD (seekK cs (gN l i).col).toNat 0]
  else if (gN l i).op = 3 then vs ++ [wordV l i cs]
  else vs.take (vs.length - (arI (gN l i).op).toNat) ++ [opV (gN l i).op (vs.drop (vs.length - (arI (gN l i).op).toNat))]
def runL (l : List Nd) (cs : List Col) (xs : List Int) : Nat → Nat → List Int → List Int
  | 0, _, vs => vs
  | m + 1, i, vs => runL l cs xs m (i + 1) (stepV l i cs xs vs)
def runV (l : List Nd) (cs : List Col) (xs : List Int) : Int := (runL l cs xs l.length 0 []).getD 0 0
theorem placeW_le (ws : List (List UInt8)) (s : List UInt8) : ∀ m i, -1 ≤ placeW ws s m i ∧ placeW ws s m i ≤ i + m
  | 0, i => by simp only [placeW]; omega
  | m + 1, i => by
    have := placeW_le ws s m (i + 1)
    simp only [placeW]
    split <;> omega
theorem getD_in {xs : List Int} (h : ∀ x ∈ xs, In64 x) (j : Nat) : In64 (xs.getD j 0) := by
  rw [List.getD]
  rcases Nat.lt_or_ge j xs.length with hj | hj
  · rw [List.getElem?_eq_getElem hj]; exact h _ (List.getElem_mem hj)
  · rw [List.getElem?_eq_none hj]; simp [In64]
theorem exprL_ok {l : List Nd} {cs : List Col} {m i : Nat} {st : List Int} (h : (exprL l cs (m + 1) i st).1 = 0) :
    nodeE l i cs = 0 ∧ ∃ st', popN st (takesN (gN l i).op).1 = some st' ∧ exprL l cs (m + 1) i st = exprL l cs m (i + 1) (st' ++ [(takesN (gN l i).op).2]) := by
  simp only [exprL] at h ⊢
  by_cases hn : nodeE l i cs = 0
  · rw [if_pos hn] at h ⊢
    refine ⟨hn, ?_⟩
    cases hp : popN st (takesN (gN l i).op).1 with
    | none => rw [hp] at h; simp at h
    | some st' => exact ⟨st', rfl, by simp only [hp]⟩
  · rw [if_neg hn] at h; exact absurd h hn
theorem step_ok {l : List Nd} {i : Nat} {cs : List Col} {xs st st' vs : List Int} (hn : nodeE l i cs = 0) (hp : popN st (takesN (gN l i).op).1 = some st') (ht : Tys st vs) (hx : ∀ x ∈ xs, In64 x) (hw : ∀ nm, (colN cs nm).ws.length ≤ 1000) :
    Tys (st' ++ [(takesN (gN l i).op).2]) (stepV l i cs xs vs) ∧ ((gN l i).op = 2 → 0 ≤ seekK cs (gN l i).col) ∧ ((gN l i).op = 3 → 1 ≤ i ∧ (gN l (i - 1)).op = 2 ∧ (gN l i).col ∈ (colN cs (gN l (i - 1)).col).ws) ∧
    (4 ≤ (gN l i).op → (arI (gN l i).op).toNat ≤ vs.length ∧ Tys (takesN (gN l i).op).1 (vs.drop (vs.length - (arI (gN l i).op).toNat))) := by
  obtain ⟨o1, o2⟩ := nodeE_op hn
  have hst := popN_eq hp
  subst hst
  have hlow : (gN l i).op ≤ 3 → takesN (gN l i).op = ([], 0) := fun h => by unfold takesN; rw [if_pos h]
  by_cases h1 : (gN l i).op = 1
  · have hn2 : 0 ≤ (gN l i).n ∧ (gN l i).n ≤ 1000000000 := by
      unfold nodeE at hn
      split at hn
      · simp at hn
      · split at hn
        · simp at hn
        · omega
    refine ⟨?_, fun h => by omega, fun h => by omega, fun h => by omega⟩
    rw [hlow (by omega)] at ht ⊢
    rw [List.append_nil] at ht
    unfold stepV
    rw [if_pos h1]
    exact ht.app ⟨⟨by unfold In64; omega, fun e => by simp at e⟩, trivial⟩
  by_cases h2 : (gN l i).op = 2
  · have hk : 0 ≤ seekK cs (gN l i).col := by
      unfold nodeE at hn
      split at hn
      · simp at hn
      · split at hn
        · simp at hn
        · rw [if_neg (by omega)] at hn
          split at hn
          · simp at hn
          · omega
    refine ⟨?_, fun _ => hk, fun h => by omega, fun h => by omega⟩
    rw [hlow (by omega)] at ht ⊢
    rw [List.append_nil] at ht
    unfold stepV
    rw [if_neg h1, if_pos h2]
    exact ht.app ⟨⟨getD_in hx _, fun e => by simp at e⟩, trivial⟩
  by_cases h3 : (gN l i).op = 3
  · have hwd : wordE l i cs = 0 := by
      unfold nodeE at hn
      split at hn
      · simp at hn
      · split at hn
        · simp at hn
        · first | exact hn | rwa [if_pos h3] at hn
    have hw3 : 1 ≤ i ∧ (gN l (i - 1)).op = 2 ∧ (gN l i).col ∈ (colN cs (gN l (i - 1)).col).ws := by
      unfold wordE at hwd
      split at hwd
      · simp at hwd
      · rename_i hb
        split at hwd
        · simp at hwd
        · split at hwd
          · rename_i hm
            refine ⟨?_, ?_, hm⟩
            · rcases Nat.eq_zero_or_pos i with h | h
              · exact absurd (.inl h) hb
              · exact h
            · exact Classical.byContradiction fun h => hb (.inr (.inl h))
          · simp at hwd
    refine ⟨?_, fun h => by omega, fun _ => hw3, fun h => by omega⟩
    rw [hlow (by omega)] at ht ⊢
    rw [List.append_nil] at ht
    unfold stepV
    rw [if_neg h1, if_neg h2, if_pos h3]
    have hb := placeW_le (colN cs (gN l (i - 1)).col).ws (gN l i).col (colN cs (gN l (i - 1)).col).ws.length 0
    have hw1 := hw (gN l (i - 1)).col
    exact ht.app ⟨⟨by unfold In64 wordV; omega, fun e => by simp at e⟩, trivial⟩
  obtain ⟨a1, a2, a3⟩ := takes_ar (op := (gN l i).op) (by omega) o2
  obtain ⟨ws, args, rfl, w1, w2⟩ := ht.split
  have hl := w2.len
  have e : (ws ++ args).length - (arI (gN l i).op).toNat = ws.length := by rw [List.length_append]; omega
  refine ⟨?_, fun h => by omega, fun h => by omega, fun _ => ?_⟩
  · unfold stepV
    rw [if_neg h1, if_neg h2, if_neg h3, e, List.take_left, List.drop_left]
    exact w1.app ⟨opV_ty (by omega) o2 w2, trivial⟩
  · rw [e, List.drop_left]
    exact ⟨by rw [List.length_append]; omega, w2⟩
end Go.Proofs.YtcjapamldllleaaDoor
namespace Go.Proofs.YtcjapamldllleaaDoor
open Go.Ab
set_option maxHeartbeats 4000000
set_option maxRecDepth 100000
set_option linter.unusedSimpArgs false
set_option linter.unusedVariables false
theorem at34 : env.P.funcs[34]? = some Tryd.f34 := by kernel_rfl
theorem e24 : elemS env 24 = some 3 := by kernel_rfl
theorem zn3 : zeroN env 3 = some 1 := by kernel_rfl
theorem by3 : bys env 3 = some 8 := by kernel_rfl
theorem sz3 : sz env 3 = some 1 := by kernel_rfl
theorem mb34 (r : Nat) : env.mutb 34 r = true := rfl
theorem build_i {T : Tm} (L : List AObj) (ts : List Nat) (x : Operand) : opT env true T ⟨L, ts⟩ (.buildSlice 24 1 #[(0, x)]) = (evalT env T x).bind fun v => if v.cells.length = 1 then some (.hsl L.length 0 1 1 .exact, ⟨L ++ [.cells v.cells 3], ts⟩) else none := by
  obtain ⟨z, hz, hl⟩ : ∃ z, zeroV env 3 = some z ∧ z.cells.length = 1 := ⟨.int .i64 0, by kernel_rfl, rfl⟩
  unfold opT
  simp only [apure, aread, astate, partsO]
  cases evalT env T x with
  | none => rfl
  | some v =>
    simp only [Option.map_some, Option.bind_some, e24, sz3, hz]
    by_cases hv : v.cells.length = 1
    · have : z.cells.tail = [] := List.eq_nil_of_length_eq_zero (by simp [hl])
      simp [vFill, hl, hv, this, S.push, env]
    · simp [vFill, hv]
abbrev SI (L : List AObj) (sv : V) (vs : List Int) : Prop := StkV L 3 1 sv vs.length (vs.map (V.int .i64))
theorem SI.more {L : List AObj} {sv : V} {vs : List Int} (h : SI L sv vs) (X : List AObj) : SI (L ++ X) sv vs := h.move fun b hb => by rw [List.getElem?_append_left (h.lt hb)]
theorem SI.push {L : List AObj} {sv : V} {vs : List Int} (h : SI L sv vs) (ts : List Nat) (k : Int) (hl : vs.length ≤ 4000) :
    ∃ v' L', appO env true ⟨L ++ [.cells [.int .i64 k] 3], ts⟩ 24 24 sv (.hsl L.length 0 1 1 .exact) = some (v', ⟨L', ts⟩) ∧ SI L' v' (vs ++ [k]) ∧ (∀ q, q < L.length → blkOf sv ≠ some q → L'[q]? = L[q]?) := by
  have hlim : lim = 2 ^ 40 := rfl
  have hc : vCells (L ++ [AObj.cells [V.int IntKind.i64 k] 3]) 1 1 (.hsl L.length 0 1 1 .exact) = some [.int .i64 k] := by simp [vCells]
  obtain ⟨v', L', ha, hs, hk, hlen, hbk⟩ := StkV.push (E := env) (ts := ts) (ty := 24) (ty2 := 24) (y := .hsl L.length 0 1 1 .exact) (h.more [AObj.cells [V.int IntKind.i64 k] 3]) e24 sz3 zn3 by3 ⟨3, u24i⟩ (by omega) ⟨by rw [hlim]; omega, by rw [hlim]; omega⟩ rfl hc rfl rfl
  refine ⟨v', L', ha, ?_, fun q hq hb => by rw [hk q (by simp; omega) hb, List.getElem?_append_left hq]⟩
  unfold SI
  rw [List.length_append, List.map_append]; exact hs
theorem colN_at {cs : List Col} {nm : List UInt8} (h : 0 ≤ seekK cs nm) : ∃ j : Nat, seekK cs nm = (j : Int) ∧ j < cs.length ∧ colN cs nm = cs.getD j Col.none := by
  rcases seekK_spec cs nm with h1 | ⟨j, h1, h2, h3, h4⟩
  · omega
  · exact ⟨j, h1, h2, by unfold colN; rw [if_pos h, h1, Int.toNat_natCast]⟩
theorem W_row {w : V} {ws : List (List UInt8)} (h : IsW w ws) {s : List UInt8} (hs : s ∈ ws) : w = .row (ws.map V.str) ws.length .unk := by
  rcases h with ⟨_, rfl⟩ | h
  · simp at hs
  · exact h
theorem exprE_zero {l : List Nd} {cs : List Col} {cond : Bool} (hE : exprE l cs cond = 0) : (exprL l cs l.length 0 []).1 = 0 ∧ (exprL l cs l.length 0 []).2 = [if cond then 1 else 0] ∧ l.length ≤ 200 := by
  unfold exprE lastE at hE
  by_cases h2 : 200 < l.length
  · rw [if_pos h2] at hE; simp at hE
  rw [if_neg h2] at hE
  by_cases h1 : (exprL l cs l.length 0 []).1 = 0
  · rw [if_pos h1] at hE
    by_cases h3 : (exprL l cs l.length 0 []).2 = [if cond then 1 else 0]
    · exact ⟨h1, h3, by omega⟩
    · rw [if_neg h3] at hE; simp at hE
  · rw [if_neg h1] at hE; exact absurd hE h1
theorem mkmeth {E : Env} {m : Bool} {T : Tm} {σ : S} (name : String) (x : Operand) : opT E m T σ (.makeFunc (.method name) #[x] #[]) = (evalT E T x).map fun v => (.meth name v, σ) := by
  unfold opT
  simp only [apure]
  cases evalT E T x <;> rfl
theorem nil_num (xv : V) : nilO env (.meth "privhouse/span.number" (.iface 62 xv)) = some (.meth "privhouse/span.number" (.iface 62 xv)) := by kernel_rfl
theorem nil_col (xv : V) : nilO env (.meth "privhouse/span.column" (.iface 62 xv)) = some (.meth "privhouse/span.column" (.iface 62 xv)) := by kernel_rfl
theorem nil_app (xv : V) : nilO env (.meth "privhouse/span.apply" (.iface 62 xv)) = some (.meth "privhouse/span.apply" (.iface 62 xv)) := by kernel_rfl
theorem weakL_ints' : ∀ l : List Int, V.weak.weakL (l.map (V.int .i64)) = l.map (V.int .i64)
  | [] => rfl
  | x :: l => by simp only [List.map_cons, V.weak.weakL, V.weak, weakL_ints' l]
theorem SI.tail {L : List AObj} {sv : V} {vs : List Int} (h : SI L sv vs) (k : Nat) (hk : k < vs.length) : ∃ b off cap ex, sliceO env 24 sv (some (.int .i64 k)) none none = some (.hsl b off (vs.length - k) cap ex) ∧ vCells L 1 (vs.length - k) (.hsl b off (vs.length - k) cap ex) = some ((vs.drop k).map (V.int .i64)) := by
  obtain ⟨hl, ⟨rfl, h0⟩ | ⟨b, cap, cs, rfl, hbk, h1, h2, h3⟩⟩ := h
  · omega
  · refine ⟨b, 0 + k * 1, cap - k, (HCap.grow 1).cut 1, ?_, ?_⟩
    · have h5 : (k : Int) ≤ (vs.length : Int) := by omega
      have hc : k < cap ∨ k = 0 := by omega
      simp [sliceO, u24i, sz3, vSlice, vBound, Nat.le_of_lt hk, hc]
    · simp only [vCells, hbk]
      rw [if_pos (by omega), List.map_drop, ← h3, List.drop_take]
      simp
theorem weak_I {v : V} {xs : List Int} (h : IsI v xs) : v.weak = v := by
  rcases h with ⟨rfl, _⟩ | rfl | rfl
  · rfl
  · simp only [V.weak, weakL_ints', RCap.weak]
  · simp only [V.weak, weakL_ints', RCap.weak]
theorem apply_call (xv : V) (xs : List Int) (hx : IsI xv xs) (op : Int) (h1 : 4 ≤ op) (h2 : op ≤ 17) (a : List Int) (ha : Tys (takesN op).1 a) (q e w : Nat) (σ : S) :
    callFn env (ev env) 125 [xv, .int .i64 op, .row (a.map (V.int .i64)) a.length (.tok q e w)] σ = some (.int .i64 (opV op a), σ) := by
  have hxc := closed_I hx
  have hwk : [xv, V.int .i64 op, V.row (a.map (V.int .i64)) a.length (.tok q e w)].map V.weak = [xv, V.int .i64 op, V.row (a.map (V.int .i64)) a.length .unk] := by
    simp only [List.map_cons, List.map_nil, weak_I hx, V.weak, weakL_ints', RCap.weak]
  have hcl := closed_ri a
  rw [callFn_weak rfl rfl (by simp [V.closed, V.closed.closedL]) (by rw [hwk]; simp only [List.all_cons, hxc, hcl, List.all_nil]; rfl), hwk]
  by_cases h7 : op = 7
  · subst h7
    obtain ⟨x, rfl, p⟩ := Tys.one ha
    exact apply1_call xv hxc 7 (.inl rfl) x σ
  by_cases h17 : op = 17
  · subst h17
    obtain ⟨x, rfl, p⟩ := Tys.one ha
    exact apply1_call xv hxc 17 (.inr rfl) x σ
  by_cases h8 : op = 8
  · subst h8
    obtain ⟨x, y, z, rfl, p, p2, p3⟩ := Tys.three ha
    exact apply3_call xv hxc x y z (p.2 rfl) σ
  obtain ⟨k1, k2, hk, hkb⟩ : ∃ k1 k2, (takesN op).1 = [k1, k2] ∧ (op = 15 ∨ op = 16 → k1 = 1 ∧ k2 = 1) := by
    have ho : op = 4 ∨ op = 5 ∨ op = 6 ∨ op = 9 ∨ op = 10 ∨ op = 11 ∨ op = 12 ∨ op = 13 ∨ op = 14 ∨ op = 15 ∨ op = 16 := by omega
    rcases ho with rfl | rfl | rfl | rfl | rfl | rfl | rfl | rfl | rfl | rfl | rfl <;> exact ⟨_, _, rfl, by decide⟩
  rw [hk] at ha
  obtain ⟨x, y, rfl, p, p2⟩ := Tys.two ha
  exact apply2_call xv hxc op ⟨h1, h2, h7, h8, h17⟩ x y p2.1 (fun h => ⟨p.2 (hkb h).1, p2.2 (hkb h).2⟩) σ
theorem sc_slice (E : Env) (t : TypeId) (x : Operand) (lo hi mx : Option Operand) : scOp E (.slice t x lo hi mx) = false := rfl
theorem rd_slice (t : TypeId) (x : Operand) (lo hi mx : Option Operand) : readsOp (.slice t x lo hi mx) = false := rfl
theorem sc_nil (E : Env) (x : Operand) : scOp E (.nilCheck x) = false := rfl
theorem rd_nil (x : Operand) : readsOp (.nilCheck x) = false := rfl
theorem sc_mkf (E : Env) (f : Fn) (a b : Array Operand) : scOp E (.makeFunc f a b) = false := rfl
theorem rd_mkf (f : Fn) (a b : Array Operand) : readsOp (.makeFunc f a b) = false := rfl
theorem rd_bs (t : TypeId) (n : Nat) (ps : Array (Nat × Operand)) : readsOp (.buildSlice t n ps) = false := rfl
theorem run_call (v : V) (l : List Nd) (hv : IsN v l) (hl : l.length ≤ 1000) (cv : V) (cs : List Col) (hc : IsC cv cs) (ok : OkC cs) (hcl : cs.length ≤ 1000) (hw : ∀ nm, (colN cs nm).ws.length ≤ 1000) (xv : V) (xs : List Int) (hx : IsI xv xs) (hxl : xs.length = cs.length) (hin : ∀ x ∈ xs, In64 x) (cond : Bool) (hE : exprE l cs cond = 0) (σ : S) :
    callFn env (ev env) 34 [v, cv, .iface 62 xv] σ = some (.int .i64 (runV l cs xs), σ) := by
  have hxc' := closed_I hx
  refine callFn_pure rfl rfl (by simp [V.closed, V.closed.closedL, closed_C hc ok, closed_N hv, hxc']) at34 rfl (by simp [Tryd.f34]) (by simp [Tryd.f34]) (G_start ?_) σ
  have hR0 := exprE_zero hE
  unfold runV
  generalize hR : exprL l cs l.length 0 [] = R at hR0
  obtain ⟨r1, r2, _⟩ := hR0
  generalize hW : runL l cs xs l.length 0 [] = W
  simp -implicitDefEqProofs only [Tryd.f34,Wa,Wb,Wc,Wd,We,Wf,Wg,Wh,Wi,Wj,Wk,Wl,Wm,Wn,Zo,Zp,evalT,Nat.reduceLT,Nat.reduceEqDiff,if_true,if_false,reduceIte,Ys,ofVal,ofCell,argT,resT,setT,Y0,Int.reduceEq,Int.reduceLT,Int.reduceLE,Int.reduceNeg,mb,Nat.reduceBEq,tys,stb,tysn,empty_mk,len_N hv]
  refine loop_rule (fun m T D σ => D = [] ∧ T 0 = v ∧ T 1 = cv ∧ T 2 = .iface 62 xv ∧ T 11 = v ∧ T 12 = .int .i64 l.length ∧ ∃ (L : List AObj) (ts : List Nat) (i : Nat) (st vs : List Int) (sv : V), σ = ⟨L, ts⟩ ∧ T 7 = sv ∧ SI L sv vs ∧ Tys st vs ∧
    T 13 = .int .i64 i ∧ i ≤ l.length ∧ m = l.length - i ∧ vs.length ≤ i ∧ exprL l cs (l.length - i) i st = R ∧ runL l cs xs (l.length - i) i vs = W) ?_ (l.length - 0) _ _ _ ⟨rfl, rfl, rfl, rfl, rfl, rfl, [], [], 0, [], [], .nilsl, rfl, rfl, .nil _ _ _, trivial, rfl, by omega, rfl, by simp, hR, hW⟩
  clear hR hW
  rintro m T D σ ⟨rfl, t0, t1, t2, t11, t12, L, ts, i, st, vs, sv, rfl, t7, hS, hT, t13, hi, rfl, hvl, hR, hW⟩
  refine G_start ?_
  by_cases hlt : i < l.length
  · have c1 : (i : Int) < (l.length : Int) := by omega
    have e1 : IntKind.i64.wrap ((i : Int) + 1) = ((i + 1 : Nat) : Int) := by rw [wrap_i64 (by omega) (by omega)]; omega
    have hxn := idx_N hv hlt
    change vIndexAddr 3 v (.int .i64 i) = some (.rptr (.int .i64 (gN l i).op :: .int .i64 (gN l i).n :: .str (gN l i).col :: _)) at hxn
    have hobj : (AObj.cells [V.int IntKind.i64 (gN l i).op, V.int IntKind.i64 (gN l i).n, V.str (gN l i).col] 52) = objN (gN l i) := rfl
    obtain ⟨q, hq⟩ : ∃ q, l.length - i = q + 1 := ⟨l.length - i - 1, by omega⟩
    have hq2 : q = l.length - (i + 1) := by omega
    rw [hq] at hR hW
    obtain ⟨hn, st', hp, hstep⟩ := exprL_ok (hR ▸ r1)
    rw [hR] at hstep
    obtain ⟨hT2, s2, s3, s4⟩ := step_ok hn hp hT hin hw
    simp only [runL] at hW
    obtain ⟨o1, o2⟩ := nodeE_op hn
    have hS1 := hS.more [objN (gN l i)]
    have fin : ∀ (v' : V) (L' : List AObj) (ts' : List Nat), SI L' v' (stepV l i cs xs vs) → (stepV l i cs xs vs).length ≤ i + 1 →
        ∃ m', m' < l.length - i ∧ ∃ (L : List AObj) (ts_1 : List Nat) (i_1 : Nat) (st vs : List Int) (sv : V), (⟨L', ts'⟩ : S) = ⟨L, ts_1⟩ ∧ v' = sv ∧ SI L sv vs ∧ Tys st vs ∧ V.int .i64 ((i + 1 : Nat) : Int) = .int .i64 i_1 ∧ i_1 ≤ l.length ∧ m' = l.length - i_1 ∧ vs.length ≤ i_1 ∧ exprL l cs (l.length - i_1) i_1 st = R ∧ runL l cs xs (l.length - i_1) i_1 vs = W :=
      fun v' L' ts' hS' hln => ⟨l.length - (i + 1), by omega, L', ts', i + 1, _, _, v', rfl, rfl, hS', hT2, rfl, by omega, rfl, hln, by rw [← hq2, ← hstep], by rw [← hq2]; exact hW⟩
    have ld1 := ld_op (gN l i)
    have ld2 := ld_n (gN l i)
    have ld3 := ld_col (gN l i)
    by_cases h1 : (gN l i).op = 1
    · have g1 : (((gN l i).op : Int) = 1) = True := eq_true h1
      have hstv : stepV l i cs xs vs = vs ++ [(gN l i).n] := by unfold stepV; rw [if_pos h1]
      obtain ⟨v', L', hA, hS', _⟩ := hS1.push ts (gN l i).n (by omega)
      have hN := number_call xv hxc' (gN l i).n
      simp -implicitDefEqProofs only [Wa,Wb,Wc,Wd,We,Wf,Wg,Wh,Wi,Wj,Wk,Wl,Wm,Wn,Zo,Zp,evalT,Nat.reduceLT,Nat.reduceEqDiff,if_true,if_false,reduceIte,Ys,ofVal,ofCell,argT,resT,setT,Y0,Int.reduceEq,Int.reduceLT,Int.reduceLE,Int.reduceNeg,mb,Nat.reduceBEq,tys,stb,Va,storeList,Nat.reduceAdd,Nat.reduceLeDiff,tysn,t0,t1,t2,t7,t11,t12,t13,c1,e1,hxn,load3_rptr,YW,isCell_int,isCell_str,hobj,set_end,heap_end,ld1,ld2,g1,opT_invoke,meth_num,hN,build_i,hA,mb34]
      exact fin v' L' _ (by rw [hstv]; exact hS') (by rw [hstv]; simp; omega)
    have g1 : (((gN l i).op : Int) = 1) = False := eq_false h1
    by_cases h2 : (gN l i).op = 2
    · have g2 : (((gN l i).op : Int) = 2) = True := eq_true h2
      have hstv : stepV l i cs xs vs = vs ++ [xs.getD (seekK cs (gN l i).col).toNat 0] := by unfold stepV; rw [if_neg h1, if_pos h2]
      obtain ⟨j, k1, k2, k3⟩ := colN_at (s2 h2)
      rw [k1, Int.toNat_natCast] at hstv
      have hK := indexS_call cv cs hc ok hcl (gN l i).col
      rw [k1] at hK
      have hN := colval_call xv xs hx j (by omega)
      obtain ⟨v', L', hA, hS', _⟩ := hS1.push ts (xs.getD j 0) (by omega)
      simp -implicitDefEqProofs only [Wa,Wb,Wc,Wd,We,Wf,Wg,Wh,Wi,Wj,Wk,Wl,Wm,Wn,Zo,Zp,evalT,Nat.reduceLT,Nat.reduceEqDiff,if_true,if_false,reduceIte,Ys,ofVal,ofCell,argT,resT,setT,Y0,Int.reduceEq,Int.reduceLT,Int.reduceLE,Int.reduceNeg,mb,Nat.reduceBEq,tys,stb,Va,storeList,Nat.reduceAdd,Nat.reduceLeDiff,tysn,t0,t1,t2,t7,t11,t12,t13,c1,e1,hxn,load3_rptr,YW,isCell_int,isCell_str,hobj,set_end,heap_end,ld1,ld2,ld3,g1,g2,opT_invoke,meth_col,mkmeth,opT_nilCheck,nil_col,hN,hK,build_i,hA,mb34]
      exact ⟨by kernel_rfl, fin v' L' _ (by rw [hstv]; exact hS') (by rw [hstv]; simp; omega)⟩
    have g2 : (((gN l i).op : Int) = 2) = False := eq_false h2
    by_cases h3 : (gN l i).op = 3
    · have g3 : (((gN l i).op : Int) = 3) = True := eq_true h3
      have hstv : stepV l i cs xs vs = vs ++ [wordV l i cs] := by unfold stepV; rw [if_neg h1, if_neg h2, if_pos h3]
      obtain ⟨w1, w2, w3⟩ := s3 h3
      have e0 : IntKind.i64.wrap ((i : Int) - 1) = ((i - 1 : Nat) : Int) := by rw [wrap_i64 (by omega) (by omega)]; omega
      have hxp := idx_N hv (show i - 1 < l.length by omega)
      change vIndexAddr 3 v (.int .i64 ((i - 1 : Nat) : Int)) = some (.rptr (.int .i64 (gN l (i - 1)).op :: .int .i64 (gN l (i - 1)).n :: .str (gN l (i - 1)).col :: _)) at hxp
      have hk0 : 0 ≤ seekK cs (gN l (i - 1)).col := Classical.byContradiction fun h => by unfold colN at w3; rw [if_neg h] at w3; simp [Col.none] at w3
      obtain ⟨j, k1, k2, k3⟩ := colN_at hk0
      have hK := indexS_call cv cs hc ok hcl (gN l (i - 1)).col
      rw [k1] at hK
      have hxc := idx_C hc k2
      have hWr := W_row (colN_W ok (gN l (i - 1)).col) w3
      have hP := indexW_call (colN cs (gN l (i - 1)).col).ws .unk (by intros; simp) (hw _) (gN l i).col
      rw [← hWr] at hP
      rw [← k3] at hxc
      change ∀ σ, _ = some (V.int .i64 (wordV l i cs), σ) at hP
      have hN := number_call xv hxc' (wordV l i cs)
      obtain ⟨v', L', hA, hS', _⟩ := hS1.push ts (wordV l i cs) (by omega)
      simp -implicitDefEqProofs only [Wa,Wb,Wc,Wd,We,Wf,Wg,Wh,Wi,Wj,Wk,Wl,Wm,Wn,Zo,Zp,evalT,Nat.reduceLT,Nat.reduceEqDiff,if_true,if_false,reduceIte,Ys,ofVal,ofCell,argT,resT,setT,Y0,Int.reduceEq,Int.reduceLT,Int.reduceLE,Int.reduceNeg,mb,Nat.reduceBEq,tys,stb,Va,storeList,Nat.reduceAdd,Nat.reduceLeDiff,tysn,tys2,t0,t1,t2,t7,t11,t12,t13,c1,e1,e0,hxn,hxp,hxc,load_hd,load3_rptr,YW,isCell_int,isCell_str,hobj,set_end,heap_end,ld1,ld2,ld3,g1,g2,g3,opT_invoke,meth_num,mkmeth,opT_nilCheck,nil_num,hN,hK,hP,build_i,hA,mb34]
      exact ⟨by kernel_rfl, fin v' L' _ (by rw [hstv]; exact hS') (by rw [hstv]; simp; omega)⟩
    have g3 : (((gN l i).op : Int) = 3) = False := eq_false h3
    have o4 : 4 ≤ (gN l i).op := by omega
    obtain ⟨a1, a2⟩ := s4 o4
    obtain ⟨_, b1, b2⟩ := takes_ar o4 o2
    have hA0 := arity_call (gN l i).op
    generalize hk : (arI (gN l i).op).toNat = k at *
    have hki : arI (gN l i).op = (k : Int) := by omega
    rw [hki] at hA0
    have hstv : stepV l i cs xs vs = vs.take (vs.length - k) ++ [opV (gN l i).op (vs.drop (vs.length - k))] := by unfold stepV; rw [if_neg h1, if_neg h2, if_neg h3, hk]
    have hlen := hS1.len 3
    have e5 : IntKind.i64.wrap ((vs.length : Int) - (k : Int)) = ((vs.length - k : Nat) : Int) := by rw [wrap_i64 (by omega) (by omega)]; omega
    obtain ⟨b, off, cap, ex, hsl, hvc⟩ := hS1.tail (vs.length - k) (by omega)
    have hlk : vs.length - (vs.length - k) = k := by omega
    rw [hlk] at hsl hvc
    have hdl : (vs.drop (vs.length - k)).length = k := by rw [List.length_drop]; omega
    have hCl := clone_call b off k cap ex (vs.drop (vs.length - k)) (L ++ [objN (gN l i)]) ts hdl (by omega) (by omega) hvc
    obtain ⟨v1, hcut, hS2, hb2⟩ := StkV.cut (E := env) hS1 u24i sz3 (vs.length - k) (by omega) none (.inl rfl)
    have hS2 : SI (L ++ [objN (gN l i)]) v1 (vs.take (vs.length - k)) := by
      unfold SI
      rw [List.length_take, Nat.min_eq_left (by omega), List.map_take]; simpa using hS2
    have hap := apply_call xv xs hx (gN l i).op o4 o2 (vs.drop (vs.length - k)) a2 ts.length 0 1
    rw [hdl] at hap
    obtain ⟨v', L', hA, hS', hkeep⟩ := hS2.push (ts ++ [0]) (opV (gN l i).op (vs.drop (vs.length - k))) (by rw [List.length_take]; omega)
    simp -implicitDefEqProofs only [Wa,Wb,Wc,Wd,We,Wf,Wg,Wh,Wi,Wj,Wk,Wl,Wm,Wn,Zo,Zp,evalT,Nat.reduceLT,Nat.reduceEqDiff,if_true,if_false,reduceIte,Ys,ofVal,ofCell,argT,resT,setT,Y0,Int.reduceEq,Int.reduceLT,Int.reduceLE,Int.reduceNeg,mb,Nat.reduceBEq,tys,stb,Va,storeList,Nat.reduceAdd,Nat.reduceLeDiff,tysn,t0,t1,t2,t7,t11,t12,t13,c1,e1,hxn,load3_rptr,YW,isCell_int,isCell_str,hobj,set_end,heap_end,ld1,ld2,ld3,g1,g2,g3,hA0,hlen,e5,mb34]
    refine G_stab rfl (fun s => s.heap[L.length]? = some (objN (gN l i))) (heap_end _ _) (by kernel_rfl) ?_
    simp -implicitDefEqProofs only [Wa,Wb,Wc,Wd,We,Wf,Wg,Wh,Wi,Wj,Wk,Wl,Wm,Wn,Zo,Zp,evalT,Nat.reduceLT,Nat.reduceEqDiff,if_true,if_false,reduceIte,Ys,ofVal,ofCell,argT,resT,setT,Y0,Int.reduceEq,Int.reduceLT,Int.reduceLE,Int.reduceNeg,mb,Nat.reduceBEq,tys,stb,Va,storeList,Nat.reduceAdd,Nat.reduceLeDiff,tysn,t0,t1,t2,t7,t11,t12,t13,c1,e1,load3_rptr,YW,isCell_int,isCell_str,hobj,set_end,heap_end,ld1,ld2,ld3,opT_slice,optO_none,optO_some,hcut,hsl,hCl,opT_invoke,meth_app,mkmeth,opT_nilCheck,nil_app,hap,build_i,hA,mb34,sc_slice,rd_slice,sc_nil,rd_nil,sc_mkf,rd_mkf,rd_bs,sc_load,sc_move,sc_fieldAddr,sc_assign,rd_load,rd_move,rd_fieldAddr,rd_assign,rd_call,aread_load]
    have hkp : L'[L.length]? = some (objN (gN l i)) := by
      rw [hkeep L.length (by simp) (by rw [hb2]; intro e; have := hS.lt e; omega)]
      exact heap_end _ _
    refine ⟨fun s hs => by rw [hs]; exact ld1, fun _ => trivial, fun _ => trivial, fun _ => by rw [List.getElem?_append_left (by simp)]; exact heap_end _ _, fun _ => hkp, ?_⟩
    exact fin v' L' _ (by rw [hstv]; exact hS') (by rw [hstv, List.length_append, List.length_take]; simp; omega)
  · have hil : i = l.length := by omega
    subst hil
    have c1 : ¬ (l.length : Int) < (l.length : Int) := by omega
    rw [Nat.sub_self] at hR hW
    simp only [exprL] at hR
    simp only [runL] at hW
    subst hR hW
    have hlen : vs.length = 1 := by rw [← hT.len]; simp only at r2; rw [r2]; rfl
    obtain ⟨p, hp, hpl⟩ := rd_idx hS.rd (show 0 < vs.length by omega)
    have hp : vIndexAddr 1 sv (.int .i64 0) = some p := hp
    simp -implicitDefEqProofs only [Wa,Wb,Wc,Wd,We,Wf,Wg,Wh,Wi,Wj,Wk,Wl,Wm,Wn,Zo,Zp,evalT,Nat.reduceLT,Nat.reduceEqDiff,if_true,if_false,reduceIte,Ys,ofVal,ofCell,argT,resT,setT,Y0,Int.reduceEq,Int.reduceLT,Int.reduceLE,Int.reduceNeg,mb,Nat.reduceBEq,tys,stb,Va,storeList,Nat.reduceAdd,Nat.reduceLeDiff,tysn,t0,t1,t2,t7,t11,t12,t13,c1,Int.natCast_zero,hp,hpl]
    rfl
end Go.Proofs.YtcjapamldllleaaDoor
