/- Proved here: what a name is. Conditions: those of each theorem; no statement of the seat is proved in this text. -/
import Derived.Test.YtbikmhpobflfeaaDoorEnvS
namespace Go.Proofs.YtbikmhpobflfeaaDoor
open Go.Ab
set_option maxHeartbeats 4000000
set_option maxRecDepth 100000
set_option linter.unusedSimpArgs false
set_option linter.unusedVariables false
set_option linter.unusedSectionVars false
theorem u3 : env.P.underlying 3 = some (.int .i64) := by kernel_rfl
theorem u4 : env.P.underlying 4 = some .bool := by kernel_rfl
theorem u5 : env.P.underlying 5 = some (.int .u8) := by kernel_rfl
theorem u9 : env.P.underlying 9 = some .string := by kernel_rfl
theorem u24 : env.P.underlying 24 = some (.slice 9) := by kernel_rfl
theorem u72 : env.P.underlying 72 = some (.array 35 9) := by kernel_rfl
theorem u115 : env.P.underlying 115 = some (.int .u64) := by kernel_rfl
theorem s9 : sz env 9 = some 1 := by kernel_rfl
theorem s24 : sz env 24 = some 1 := by kernel_rfl
theorem s3 : sz env 3 = some 1 := by kernel_rfl
theorem g9 : aggT env 9 = some false := by kernel_rfl
theorem g24 : aggT env 24 = some false := by kernel_rfl
theorem g3 : aggT env 3 = some false := by kernel_rfl
theorem tys : env.P.underlying 3 = some (.int .i64) ∧ env.P.underlying 4 = some .bool ∧ env.P.underlying 5 = some (.int .u8) ∧ env.P.underlying 9 = some .string ∧ env.P.underlying 24 = some (.slice 9) ∧ env.P.underlying 115 = some (.int .u64) ∧ sz env 9 = some 1 ∧ sz env 24 = some 1 ∧ sz env 3 = some 1 ∧
    (∀ h p, aload env h 9 p = (loadCellsV h 1 p).bind (·[0]?)) ∧ (∀ h p, aload env h 24 p = (loadCellsV h 1 p).bind (·[0]?)) ∧ (∀ h p, aload env h 3 p = (loadCellsV h 1 p).bind (·[0]?)) :=
  ⟨u3, u4, u5, u9, u24, u115, s9, s24, s3, fun _ _ => aload_one g9, fun _ _ => aload_one g24, fun _ _ => aload_one g3⟩
theorem mb (f : FuncId) (r : Nat) (h : (f == 62 && r == 3) = false) : env.mutb f r = false := h
theorem stb (f : FuncId) (r : Nat) (h : (f == 25 && r == 6) = false) : env.stab f r = false := h
theorem at116 : env.P.funcs[116]? = some Tryd.f116 := by kernel_rfl
theorem at87 : env.P.funcs[87]? = some Tryd.f87 := by kernel_rfl
theorem at86 : env.P.funcs[86]? = some Tryd.f86 := by kernel_rfl
theorem at58 : env.P.funcs[58]? = some Tryd.f58 := by kernel_rfl
theorem at15 : env.P.funcs[15]? = some Tryd.f15 := by kernel_rfl
theorem nan_call (s : List UInt8) (σ : S) : callFn env (ev env) 116 [.str s] σ = some (.bool false, σ) := by
  refine callFn_pure rfl rfl rfl at116 rfl (by simp [Tryd.f116]) (by simp [Tryd.f116]) (G_start ?_) σ
  simp -implicitDefEqProofs only [Tryd.f116,Wa,Wb,Wc,Wd,We,Wf,Wg,Wh,Wi,Wj,Wk,Wl,Wm,Wn,Zo,Zp,evalT,Nat.reduceLT,Nat.reduceEqDiff,if_true,if_false,reduceIte,Ys,ofVal,ofCell,argT,resT,setT,Y0,Int.reduceEq,Int.reduceLT,Int.reduceLE,Int.reduceNeg,mb,Nat.reduceBEq,tys,stb,vBin_sneq]
  simp [oneOr, sealDepth, sealV_bool]
theorem nan2_call (s : List UInt8) (σ : S) : callFn env (ev env) 87 [.str s] σ = some (.bool false, σ) := by
  refine callFn_pure rfl rfl rfl at87 rfl (by simp [Tryd.f87]) (by simp [Tryd.f87]) (G_start ?_) σ
  simp -implicitDefEqProofs only [Tryd.f87,Wa,Wb,Wc,Wd,We,Wf,Wg,Wh,Wi,Wj,Wk,Wl,Wm,Wn,Zo,Zp,evalT,Nat.reduceLT,Nat.reduceEqDiff,if_true,if_false,reduceIte,Ys,ofVal,ofCell,argT,resT,setT,Y0,Int.reduceEq,Int.reduceLT,Int.reduceLE,Int.reduceNeg,mb,Nat.reduceBEq,tys,stb,vBin_sneq]
  simp [oneOr, sealDepth, sealV_bool]
theorem less_call (a b : List UInt8) (σ : S) : callFn env (ev env) 86 [.str a, .str b] σ = some (.bool (Op.bytesLess a b), σ) := by
  refine callFn_pure rfl rfl rfl at86 rfl (by simp [Tryd.f86]) (by simp [Tryd.f86]) (G_start ?_) σ
  cases h : Op.bytesLess a b <;>
  · simp -implicitDefEqProofs only [Tryd.f86,Wa,Wb,Wc,Wd,We,Wf,Wg,Wh,Wi,Wj,Wk,Wl,Wm,Wn,Zo,Zp,evalT,Nat.reduceLT,Nat.reduceEqDiff,if_true,if_false,reduceIte,Ys,ofVal,ofCell,argT,resT,setT,Y0,Int.reduceEq,Int.reduceLT,Int.reduceLE,Int.reduceNeg,mb,Nat.reduceBEq,tys,stb,vBin_slss,nan_call,h]
    simp [oneOr, sealDepth, sealV_bool]
theorem less_trans : ∀ {a b c : List UInt8}, Op.bytesLess a b = true → Op.bytesLess b c = true → Op.bytesLess a c = true
  | _, [], _, h, _ => by simp [Op.bytesLess] at h
  | _, _ :: _, [], _, h => by simp [Op.bytesLess] at h
  | [], y :: b, z :: c, _, _ => rfl
  | x :: a, y :: b, z :: c, h, k => by
    simp only [Op.bytesLess, Bool.or_eq_true, Bool.and_eq_true, decide_eq_true_eq, beq_iff_eq] at h k ⊢
    rcases h with h | ⟨rfl, h⟩
    · rcases k with k | ⟨rfl, k⟩
      · exact .inl (UInt8.lt_trans h k)
      · exact .inl h
    · rcases k with k | ⟨rfl, k⟩
      · exact .inl k
      · exact .inr ⟨rfl, less_trans h k⟩
def Rising (ws : List (List UInt8)) : Prop := ∀ i j, i < j → j < ws.length → Op.bytesLess (ws.getD i []) (ws.getD j []) = true
theorem count_of {ws : List (List UInt8)} {s : List UInt8} {lo : Nat} (hl : lo ≤ ws.length) (h1 : ∀ i, i < lo → Op.bytesLess (ws.getD i []) s = true) (h2 : ∀ i, lo ≤ i → i < ws.length → Op.bytesLess (ws.getD i []) s = false) :
    ws.countP (fun w => Op.bytesLess w s) = lo := by
  have e : ws = ws.take lo ++ ws.drop lo := (List.take_append_drop lo ws).symm
  rw [e, List.countP_append]
  have a1 : (ws.take lo).countP (fun w => Op.bytesLess w s) = (ws.take lo).length := by
    rw [List.countP_eq_length]
    intro w hw
    obtain ⟨i, hi, rfl⟩ := List.mem_iff_getElem.1 hw
    have := h1 i (by simp at hi; omega)
    have hi2 : i < ws.length := by simp at hi; omega
    simpa [List.getD, hi2] using this
  have a2 : (ws.drop lo).countP (fun w => Op.bytesLess w s) = 0 := by
    rw [List.countP_eq_zero]
    intro w hw
    obtain ⟨i, hi, rfl⟩ := List.mem_iff_getElem.1 hw
    have hi2 : lo + i < ws.length := by simp at hi; omega
    have := h2 (lo + i) (by omega) hi2
    simpa [List.getD, hi2] using this
  rw [a1, a2]
  simp; omega
theorem mem_of {ws : List (List UInt8)} {s : List UInt8} {lo : Nat} (hr : Rising ws) (h1 : ∀ i, i < lo → Op.bytesLess (ws.getD i []) s = true) (h2 : ∀ i, lo ≤ i → i < ws.length → Op.bytesLess (ws.getD i []) s = false) :
    (s ∈ ws) ↔ (lo < ws.length ∧ ws.getD lo [] = s) := by
  constructor
  · intro hm
    obtain ⟨k, hk, rfl⟩ := List.mem_iff_getElem.1 hm
    have ek : ws.getD k [] = ws[k] := by simp [List.getD, hk]
    have hlo : lo ≤ k := by
      rcases Nat.lt_or_ge k lo with h | h
      · have := h1 k h; rw [ek, str_not_less] at this; simp at this
      · exact h
    rcases Nat.lt_or_ge lo k with h | h
    · have := hr lo k h hk
      rw [ek, h2 lo (Nat.le_refl _) (by omega)] at this; simp at this
    · have : lo = k := by omega
      subst this
      exact ⟨hk, ek⟩
  · rintro ⟨h, rfl⟩
    simp [List.getD, h]
theorem search_call (ws : List (List UInt8)) (hw : ws.length < 2 ^ 40) (hr : Rising ws) (s : List UInt8) (σ : S) :
    callFn env (ev env) 58 [.row (ws.map V.str) ws.length .full, .str s] σ = some (.tup [.int .i64 (ws.countP (fun w => Op.bytesLess w s) : Nat), .bool (decide (s ∈ ws))], σ) := by
  refine callFn_pure rfl rfl (by simp [V.closed, closed_strs]) at58 rfl (by simp [Tryd.f58]) (by simp [Tryd.f58]) (G_start ?_) σ
  simp -implicitDefEqProofs only [Tryd.f58,Wa,Wb,Wc,Wd,We,Wf,Wg,Wh,Wi,Wj,Wk,Wl,Wm,Wn,Zo,Zp,evalT,Nat.reduceLT,Nat.reduceEqDiff,if_true,if_false,reduceIte,Ys,ofVal,ofCell,argT,resT,setT,Y0,Int.reduceEq,Int.reduceLT,Int.reduceLE,Int.reduceNeg,mb,Nat.reduceBEq,tys,stb,vBin_slss,vBin_seql]
  refine loop_rule (fun m T D σ => D = [] ∧ σ = S.empty ∧ T 0 = .row (ws.map V.str) ws.length .full ∧ T 1 = .str s ∧ T 6 = .int .i64 ws.length ∧ ∃ lo hi : Nat, T 7 = .int .i64 lo ∧ T 8 = .int .i64 hi ∧ lo ≤ hi ∧ hi ≤ ws.length ∧ m = hi - lo ∧
    (∀ i, i < lo → Op.bytesLess (ws.getD i []) s = true) ∧ (∀ i, hi ≤ i → i < ws.length → Op.bytesLess (ws.getD i []) s = false)) ?_ _ _ _ _ ⟨rfl, rfl, rfl, rfl, rfl, 0, ws.length, rfl, rfl, by omega, by omega, rfl, fun i h => by omega, fun i h1 h2 => by omega⟩
  rintro m T D σ ⟨rfl, rfl, t0, t1, t6, lo, hi, t7, t8, h1, h2, rfl, i1, i2⟩
  refine G_start ?_
  by_cases hlt : lo < hi
  · have c1 : (lo : Int) < (hi : Int) := by omega
    have e1 : IntKind.i64.wrap ((lo : Int) + (hi : Int)) = ((lo + hi : Nat) : Int) := by rw [wrap_i64 (by omega) (by omega)]; omega
    have e2 : IntKind.u64.wrap (((lo + hi : Nat) : Int)) = ((lo + hi : Nat) : Int) := by rw [IntKind.wrap_u64]; omega
    have e3 : ((lo + hi : Nat) : Int).fdiv (2 ^ min (Int.toNat 1) IntKind.u64.bits) = (((lo + hi) / 2 : Nat) : Int) := by
      rw [show min (Int.toNat 1) IntKind.u64.bits = 1 from by decide]
      rw [Int.fdiv_eq_ediv_of_nonneg _ (by omega)]; omega
    have e4 : IntKind.i64.wrap ((((lo + hi) / 2 : Nat) : Int)) = (((lo + hi) / 2 : Nat) : Int) := by rw [wrap_i64 (by omega) (by omega)]
    have c2 : (lo + hi) / 2 < ws.length := by omega
    have e5 : IntKind.i64.wrap ((((lo + hi) / 2 : Nat) : Int) + 1) = (((lo + hi) / 2 + 1 : Nat) : Int) := by rw [wrap_i64 (by omega) (by omega)]; omega
    have e6 : ¬ ((1 : Int) < 0) := by omega
    cases hb : Op.bytesLess (ws.getD ((lo + hi) / 2) []) s with
    | true =>
      simp -implicitDefEqProofs only [Wa,Wb,Wc,Wd,We,Wf,Wg,Wh,Wi,Wj,Wk,Wl,Wm,Wn,Zo,Zp,evalT,Nat.reduceLT,Nat.reduceEqDiff,if_true,if_false,reduceIte,Ys,ofVal,ofCell,argT,resT,setT,Y0,Int.reduceEq,Int.reduceLT,Int.reduceLE,Int.reduceNeg,mb,Nat.reduceBEq,tys,stb,t0,t1,t6,t7,t8,c1,e1,e2,e3,e4,e5,e6,strs_get,c2,less_call,hb,vBin_shr]
      refine ⟨⟨by omega, by omega⟩, hi - ((lo + hi) / 2 + 1), by omega, (lo + hi) / 2 + 1, hi, rfl, rfl, by omega, by omega, rfl, fun i hi' => ?_, i2⟩
      rcases Nat.lt_or_ge i ((lo + hi) / 2) with h | h
      · exact less_trans (hr i _ h c2) hb
      · have : i = (lo + hi) / 2 := by omega
        subst this; exact hb
    | false =>
      simp -implicitDefEqProofs only [Wa,Wb,Wc,Wd,We,Wf,Wg,Wh,Wi,Wj,Wk,Wl,Wm,Wn,Zo,Zp,evalT,Nat.reduceLT,Nat.reduceEqDiff,if_true,if_false,reduceIte,Ys,ofVal,ofCell,argT,resT,setT,Y0,Int.reduceEq,Int.reduceLT,Int.reduceLE,Int.reduceNeg,mb,Nat.reduceBEq,tys,stb,t0,t1,t6,t7,t8,c1,e1,e2,e3,e4,e5,e6,strs_get,c2,less_call,hb,vBin_shr]
      refine ⟨⟨by omega, by omega⟩, (lo + hi) / 2 - lo, by omega, lo, (lo + hi) / 2, rfl, rfl, by omega, by omega, rfl, i1, fun i h3 h4 => ?_⟩
      rcases Nat.lt_or_ge ((lo + hi) / 2) i with h | h
      · cases hc : Op.bytesLess (ws.getD i []) s with
        | false => rfl
        | true =>
          have := less_trans (hr _ i h h4) hc
          rw [hb] at this; simp at this
      · have : i = (lo + hi) / 2 := by omega
        subst this; exact hb
  · have he : hi = lo := by omega
    obtain rfl : lo = hi := he.symm
    have c1 : ¬ (lo : Int) < (lo : Int) := by omega
    have hcnt := count_of h2 i1 i2
    have hmem := mem_of hr i1 i2
    by_cases c3 : lo < ws.length
    · have c4 : (lo : Int) < (ws.length : Int) := by omega
      have c6 : (0 : Int) ≤ (lo : Int) ∧ (lo : Int) < (ws.length : Int) := by omega
      by_cases c5 : ws.getD lo [] = s
      · have hm : s ∈ ws := hmem.2 ⟨c3, c5⟩
        simp -implicitDefEqProofs only [Wa,Wb,Wc,Wd,We,Wf,Wg,Wh,Wi,Wj,Wk,Wl,Wm,Wn,Zo,Zp,evalT,Nat.reduceLT,Nat.reduceEqDiff,if_true,if_false,reduceIte,Ys,ofVal,ofCell,argT,resT,setT,Y0,Int.reduceEq,Int.reduceLT,Int.reduceLE,Int.reduceNeg,mb,Nat.reduceBEq,tys,stb,t0,t1,t6,t7,t8,c1,c4,c6,strs_get,c3,c5,vBin_seql,nan2_call]
        simp [oneOr, sealDepth, sealV_tup, mapM_seal_cons, mapM_seal_nil, sealV_int, sealV_bool, hcnt, hm]
      · have hm : ¬ s ∈ ws := fun h => c5 (hmem.1 h).2
        simp -implicitDefEqProofs only [Wa,Wb,Wc,Wd,We,Wf,Wg,Wh,Wi,Wj,Wk,Wl,Wm,Wn,Zo,Zp,evalT,Nat.reduceLT,Nat.reduceEqDiff,if_true,if_false,reduceIte,Ys,ofVal,ofCell,argT,resT,setT,Y0,Int.reduceEq,Int.reduceLT,Int.reduceLE,Int.reduceNeg,mb,Nat.reduceBEq,tys,stb,t0,t1,t6,t7,t8,c1,c4,c6,strs_get,c3,c5,vBin_seql,nan2_call]
        simp [oneOr, sealDepth, sealV_tup, mapM_seal_cons, mapM_seal_nil, sealV_int, sealV_bool, hcnt, hm]
    · have c4 : ¬ (lo : Int) < (ws.length : Int) := by omega
      have hm : ¬ s ∈ ws := fun h => c3 (hmem.1 h).1
      simp -implicitDefEqProofs only [Wa,Wb,Wc,Wd,We,Wf,Wg,Wh,Wi,Wj,Wk,Wl,Wm,Wn,Zo,Zp,evalT,Nat.reduceLT,Nat.reduceEqDiff,if_true,if_false,reduceIte,Ys,ofVal,ofCell,argT,resT,setT,Y0,Int.reduceEq,Int.reduceLT,Int.reduceLE,Int.reduceNeg,mb,Nat.reduceBEq,tys,stb,t0,t1,t6,t7,t8,c1,c4,strs_get,c3,vBin_seql,nan2_call]
      simp [oneOr, sealDepth, sealV_tup, mapM_seal_cons, mapM_seal_nil, sealV_int, sealV_bool, hcnt, hm]
end Go.Proofs.YtbikmhpobflfeaaDoor
namespace Go.Proofs.YtbikmhpobflfeaaDoor
open Go.Ab
set_option maxHeartbeats 4000000
set_option maxRecDepth 100000
set_option linter.unusedSimpArgs false
set_option linter.unusedVariables false
set_option linter.unusedSectionVars false
def okC (c : UInt8) : Prop := (97 ≤ c.toNat ∧ c.toNat ≤ 122) ∨ (48 ≤ c.toNat ∧ c.toNat ≤ 57) ∨ c.toNat = 95
instance (c : UInt8) : Decidable (okC c) := by unfold okC; infer_instance
def wordsW : List (List UInt8) := ["above", "and", "batch", "between", "bits", "by", "consistent", "count", "else", "factor", "from", "histogram", "identity", "if", "join", "keep", "late", "limit", "mode", "none", "not", "of", "on", "or", "peak", "prefix", "quantile", "running", "sum", "then", "total", "tree", "using", "where", "with"].map fun s => s.toList.map fun c => UInt8.ofNat c.toNat
theorem resV_words : resV' = wordsW.map V.str := by kernel_rfl
theorem words_len : wordsW.length = 35 := by kernel_rfl
def risingB (ws : List (List UInt8)) : Bool := (List.range ws.length).all fun j => (List.range j).all fun i => Op.bytesLess (ws.getD i []) (ws.getD j [])
theorem words_rising : Rising wordsW := by
  have h : risingB wordsW = true := by kernel_rfl
  intro i j hij hj
  unfold risingB at h
  rw [List.all_eq_true] at h
  have h1 := h j (by simpa using hj)
  rw [List.all_eq_true] at h1
  exact h1 i (by simpa using hij)
def IsName (s : List UInt8) : Prop := 1 ≤ s.length ∧ s.length ≤ 20 ∧ 97 ≤ (s.getD 0 0).toNat ∧ (s.getD 0 0).toNat ≤ 122 ∧ (∀ i, i < s.length → okC (s.getD i 0)) ∧ s ∉ wordsW
instance (s : List UInt8) : Decidable (IsName s) := by unfold IsName; infer_instance
theorem sliceG0 : sliceO env 72 (.rptr resV') none none none = some (.row (wordsW.map V.str) wordsW.length .full) := by
  rw [resV_words, words_len]
  exact slice_arr u72 s9 (by rw [List.length_map, words_len])
theorem name_call (s : List UInt8) (hs : s.length < 2 ^ 63) (σ : S) : callFn env (ev env) 15 [.str s] σ = some (.bool (decide (IsName s)), σ) := by
  refine callFn_pure rfl rfl rfl at15 rfl (by simp [Tryd.f15]) (by simp [Tryd.f15]) (G_start ?_) σ
  by_cases h1 : (s.length : Int) < 1
  · have hn : ¬ IsName s := fun h => by have := h.1; omega
    simp -implicitDefEqProofs only [Tryd.f15,Wa,Wb,Wc,Wd,We,Wf,Wg,Wh,Wi,Wj,Wk,Wl,Wm,Wn,Zo,Zp,evalT,Nat.reduceLT,Nat.reduceEqDiff,if_true,if_false,reduceIte,Ys,ofVal,ofCell,argT,resT,setT,Y0,Int.reduceEq,Int.reduceLT,Int.reduceLE,Int.reduceNeg,mb,Nat.reduceBEq,tys,stb,h1,len_str,opT_index,indexO_str u9]
    simp [oneOr, sealDepth, sealV_bool, hn]
  by_cases h2 : (20 : Int) < (s.length : Int)
  · have hn : ¬ IsName s := fun h => by have := h.2.1; omega
    simp -implicitDefEqProofs only [Tryd.f15,Wa,Wb,Wc,Wd,We,Wf,Wg,Wh,Wi,Wj,Wk,Wl,Wm,Wn,Zo,Zp,evalT,Nat.reduceLT,Nat.reduceEqDiff,if_true,if_false,reduceIte,Ys,ofVal,ofCell,argT,resT,setT,Y0,Int.reduceEq,Int.reduceLT,Int.reduceLE,Int.reduceNeg,mb,Nat.reduceBEq,tys,stb,h1,h2,len_str,opT_index,indexO_str u9]
    simp [oneOr, sealDepth, sealV_bool, hn]
  have hb : (0 : Int) ≤ 0 ∧ (0 : Int) < (s.length : Int) := by omega
  have e0 : Int.toNat 0 = 0 := rfl
  by_cases h3 : (((s.getD 0 0).toNat : Nat) : Int) < 97
  · have hn : ¬ IsName s := fun h => by have := h.2.2.1; omega
    simp -implicitDefEqProofs only [Tryd.f15,Wa,Wb,Wc,Wd,We,Wf,Wg,Wh,Wi,Wj,Wk,Wl,Wm,Wn,Zo,Zp,evalT,Nat.reduceLT,Nat.reduceEqDiff,if_true,if_false,reduceIte,Ys,ofVal,ofCell,argT,resT,setT,Y0,Int.reduceEq,Int.reduceLT,Int.reduceLE,Int.reduceNeg,mb,Nat.reduceBEq,tys,stb,h1,h2,h3,len_str,opT_index,indexO_str u9,hb]
    simp [oneOr, sealDepth, sealV_bool, hn]
  by_cases h4 : (122 : Int) < (((s.getD 0 0).toNat : Nat) : Int)
  · have hn : ¬ IsName s := fun h => by have := h.2.2.2.1; omega
    simp -implicitDefEqProofs only [Tryd.f15,Wa,Wb,Wc,Wd,We,Wf,Wg,Wh,Wi,Wj,Wk,Wl,Wm,Wn,Zo,Zp,evalT,Nat.reduceLT,Nat.reduceEqDiff,if_true,if_false,reduceIte,Ys,ofVal,ofCell,argT,resT,setT,Y0,Int.reduceEq,Int.reduceLT,Int.reduceLE,Int.reduceNeg,mb,Nat.reduceBEq,tys,stb,h1,h2,h3,h4,len_str,opT_index,indexO_str u9,hb]
    simp [oneOr, sealDepth, sealV_bool, hn]
  simp -implicitDefEqProofs only [Tryd.f15,Wa,Wb,Wc,Wd,We,Wf,Wg,Wh,Wi,Wj,Wk,Wl,Wm,Wn,Zo,Zp,evalT,Nat.reduceLT,Nat.reduceEqDiff,if_true,if_false,reduceIte,Ys,ofVal,ofCell,argT,resT,setT,Y0,Int.reduceEq,Int.reduceLT,Int.reduceLE,Int.reduceNeg,mb,Nat.reduceBEq,tys,stb,h1,h2,h3,h4,len_str,opT_index,indexO_str u9,hb]
  refine loop_rule (fun m T D σ => D = [] ∧ σ = S.empty ∧ T 0 = .str s ∧ T 26 = .int .i64 s.length ∧ ∃ i : Nat, T 27 = .int .i64 i ∧ i ≤ s.length ∧ m = s.length - i ∧ ∀ j, j < i → okC (s.getD j 0)) ?_ _ _ _ _ ⟨rfl, rfl, rfl, rfl, 0, rfl, by omega, rfl, fun j h => by omega⟩
  rintro m T D σ ⟨rfl, rfl, t0, t26, i, t27, hi, rfl, hok⟩
  refine G_start ?_
  by_cases hlt : i < s.length
  · have c1 : (i : Int) < (s.length : Int) := by omega
    have c2 : (0 : Int) ≤ (i : Int) ∧ (i : Int) < (s.length : Int) := by omega
    have e1 : IntKind.i64.wrap ((i : Int) + 1) = ((i + 1 : Nat) : Int) := by rw [wrap_i64 (by omega) (by omega)]; omega
    have hstep : okC (s.getD i 0) → ∀ j, j < i + 1 → okC (s.getD j 0) := fun h j hj => by
      rcases Nat.lt_or_ge j i with h2 | h2
      · exact hok j h2
      · have : j = i := by omega
        subst this; exact h
    have hbad : ¬ okC (s.getD i 0) → ¬ IsName s := fun h hn => h (hn.2.2.2.2.1 i hlt)
    have hun : okC (s.getD i 0) ↔ ((97 ≤ (s.getD i 0).toNat ∧ (s.getD i 0).toNat ≤ 122) ∨ (48 ≤ (s.getD i 0).toNat ∧ (s.getD i 0).toNat ≤ 57) ∨ (s.getD i 0).toNat = 95) := Iff.rfl
    simp -implicitDefEqProofs only [Wa,Wb,Wc,Wd,We,Wf,Wg,Wh,Wi,Wj,Wk,Wl,Wm,Wn,Zo,Zp,evalT,Nat.reduceLT,Nat.reduceEqDiff,if_true,if_false,reduceIte,Ys,ofVal,ofCell,argT,resT,setT,Y0,Int.reduceEq,Int.reduceLT,Int.reduceLE,Int.reduceNeg,mb,Nat.reduceBEq,tys,stb,t0,t26,t27,c1,e1,len_str,opT_index,indexO_str u9,c2,Int.toNat_natCast]
    generalize (s.getD i 0) = c at *
    have inv : okC c → ∃ m', m' < s.length - i ∧ ∃ i_1 : Nat, V.int IntKind.i64 ((i + 1 : Nat) : Int) = V.int IntKind.i64 (i_1 : Nat) ∧ i_1 ≤ s.length ∧ m' = s.length - i_1 ∧ ∀ (j : Nat), j < i_1 → okC (s.getD j 0) :=
      fun h => ⟨s.length - (i + 1), by omega, i + 1, rfl, by omega, rfl, hstep h⟩
    have bad : ¬ okC c → sealV S.empty.heap sealDepth (oneOr [V.bool false]) = some (V.bool (decide (IsName s))) := fun h => by
      simp [oneOr, sealDepth, sealV_bool, hbad h]
    repeat' (first | apply And.intro | intro _)
    all_goals first | exact inv (by unfold okC; omega) | exact bad (by unfold okC; omega)
  · have hi2 : i = s.length := by omega
    have c1 : ¬ (i : Int) < (s.length : Int) := by omega
    subst hi2
    have key : (s ∈ wordsW) = ¬ IsName s := by
      apply propext
      constructor
      · exact fun h hn => hn.2.2.2.2.2 h
      · intro h
        apply Classical.byContradiction
        intro hm
        exact h ⟨by omega, by omega, by omega, by omega, hok, hm⟩
    simp -implicitDefEqProofs only [Wa,Wb,Wc,Wd,We,Wf,Wg,Wh,Wi,Wj,Wk,Wl,Wm,Wn,Zo,Zp,evalT,Nat.reduceLT,Nat.reduceEqDiff,if_true,if_false,reduceIte,Ys,ofVal,ofCell,argT,resT,setT,Y0,Int.reduceEq,Int.reduceLT,Int.reduceLE,Int.reduceNeg,mb,Nat.reduceBEq,tys,stb,t0,t26,t27,c1,len_str,opT_slice,optO_none,sliceG0,search_call wordsW (by rw [words_len]; decide) words_rising,show env.gl 0 = some (.rptr resV') from rfl]
    by_cases hn : IsName s
    · have hm : ¬ s ∈ wordsW := hn.2.2.2.2.2
      simp [oneOr, sealDepth, sealV_bool, hn, hm]
    · have hm : s ∈ wordsW := by rw [key]; exact hn
      simp [oneOr, sealDepth, sealV_bool, hn, hm]
end Go.Proofs.YtbikmhpobflfeaaDoor
namespace Go.Proofs.YtbikmhpobflfeaaDoor
open Go.Ab
set_option maxHeartbeats 4000000
set_option maxRecDepth 100000
set_option linter.unusedSimpArgs false
set_option linter.unusedVariables false
set_option linter.unusedSectionVars false
end Go.Proofs.YtbikmhpobflfeaaDoor
namespace Go.Proofs.YtbikmhpobflfeaaDoor
open Go.Ab
set_option maxHeartbeats 4000000
set_option maxRecDepth 100000
set_option linter.unusedSimpArgs false
set_option linter.unusedVariables false
set_option linter.unusedSectionVars false
end Go.Proofs.YtbikmhpobflfeaaDoor
