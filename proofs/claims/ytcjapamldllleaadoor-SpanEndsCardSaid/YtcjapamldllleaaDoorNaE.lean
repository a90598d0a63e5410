/- Proved here: the law, with expressions that are drawn. Conditions: those of each theorem; no statement of the seat is proved in this text. -/
import Derived.Test.YtcjapamldllleaaDoorEnvK
import Derived.Test.YtcjapamldllleaaDoorPtA
namespace Go.Proofs.YtcjapamldllleaaDoor.N
open Go.Ab
set_option maxHeartbeats 4000000
set_option maxHeartbeats 4000000
set_option maxRecDepth 100000
set_option linter.unusedSimpArgs false
set_option linter.unusedVariables false
theorem mb (f : FuncId) (r : Nat) : env.mutb f r = false := rfl
theorem stb (f : FuncId) (r : Nat) (h : (f == 6 && r == 9 || f == 7 && r == 12 || f == 7 && r == 13 || f == 21 && r == 8 || f == 21 && r == 9 || f == 22 && r == 5 || f == 41 && r == 11 || f == 41 && r == 19 || f == 65 && r == 7) = false) : env.stab f r = false := h
theorem tys : env.P.underlying 3 = some (.int .i64) ∧ env.P.underlying 4 = some .bool ∧ env.P.underlying 9 = some .string ∧ env.P.underlying 44 = some (.slice 9) ∧ env.P.underlying 22 = some (.slice 52) ∧ env.P.underlying 23 = some (.slice 46) ∧ env.P.underlying 24 = some (.slice 3) ∧
    sz env 9 = some 1 ∧ sz env 44 = some 1 ∧ sz env 3 = some 1 ∧ sz env 4 = some 1 ∧ sz env 22 = some 1 ∧ sz env 23 = some 1 ∧ sz env 24 = some 1 ∧ sz env 46 = some 4 ∧ sz env 52 = some 3 ∧ sz env 39 = some 2 ∧
    fldOff env 39 0 = some 0 ∧ fldOff env 39 1 = some 1 ∧ fldOff env 46 0 = some 0 ∧ fldOff env 46 1 = some 1 ∧ fldOff env 46 2 = some 2 ∧ fldOff env 46 3 = some 3 ∧ fldOff env 52 0 = some 0 ∧ fldOff env 52 1 = some 1 ∧ fldOff env 52 2 = some 2 ∧
    (∀ h p, aload env h 9 p = (loadCellsV h 1 p).bind (·[0]?)) ∧ (∀ h p, aload env h 44 p = (loadCellsV h 1 p).bind (·[0]?)) ∧ (∀ h p, aload env h 3 p = (loadCellsV h 1 p).bind (·[0]?)) ∧ (∀ h p, aload env h 4 p = (loadCellsV h 1 p).bind (·[0]?)) ∧
    (∀ h p, aload env h 24 p = (loadCellsV h 1 p).bind (·[0]?)) ∧ (∀ h p, aload env h 23 p = (loadCellsV h 1 p).bind (·[0]?)) ∧ (∀ h p, aload env h 52 p = (loadCellsV h 3 p).map .agg) ∧ (∀ h p, aload env h 46 p = (loadCellsV h 4 p).map .agg) ∧
    zeroV env 52 = some (.agg [.int .i64 0, .int .i64 0, .str []]) ∧ zeroV env 46 = some (.agg [.str [], .int .i64 0, .int .i64 0, .nilsl]) := by
  have g9 : aggT env 9 = some false := by kernel_rfl
  have g44 : aggT env 44 = some false := by kernel_rfl
  have g3 : aggT env 3 = some false := by kernel_rfl
  have g4 : aggT env 4 = some false := by kernel_rfl
  have g24 : aggT env 24 = some false := by kernel_rfl
  have g23 : aggT env 23 = some false := by kernel_rfl
  have g52 : aggT env 52 = some true := by kernel_rfl
  have g46 : aggT env 46 = some true := by kernel_rfl
  have s52 : sz env 52 = some 3 := by kernel_rfl
  have s46 : sz env 46 = some 4 := by kernel_rfl
  exact ⟨by kernel_rfl, by kernel_rfl, by kernel_rfl, by kernel_rfl, by kernel_rfl, by kernel_rfl, by kernel_rfl, by kernel_rfl, by kernel_rfl, by kernel_rfl, by kernel_rfl, by kernel_rfl, by kernel_rfl, by kernel_rfl, by kernel_rfl, by kernel_rfl, by kernel_rfl, by kernel_rfl, by kernel_rfl, by kernel_rfl, by kernel_rfl, by kernel_rfl, by kernel_rfl, by kernel_rfl, by kernel_rfl, by kernel_rfl,
    fun _ _ => aload_one g9, fun _ _ => aload_one g44, fun _ _ => aload_one g3, fun _ _ => aload_one g4, fun _ _ => aload_one g24, fun _ _ => aload_one g23, fun h p => by unfold aload; rw [g52, s52]; rfl, fun h p => by unfold aload; rw [g46, s46]; rfl, by kernel_rfl, by kernel_rfl⟩
theorem at23 : env.P.funcs[23]? = some Tryd.f23 := by kernel_rfl
theorem at44 : env.P.funcs[44]? = some Tryd.f44 := by kernel_rfl
theorem at27 : env.P.funcs[27]? = some Tryd.f27 := by kernel_rfl
theorem at29 : env.P.funcs[29]? = some Tryd.f29 := by kernel_rfl
theorem at31 : env.P.funcs[31]? = some Tryd.f31 := by kernel_rfl
theorem pick_call (x n : Int) (hx : In64 x) (hn : In64 n) (h1 : 1 ≤ n) (σ : S) : callFn env (ev env) 44 [.int .i64 x, .int .i64 n] σ = some (.int .i64 (x % n), σ) := by
  refine callFn_pure rfl rfl rfl at44 rfl (by simp [Tryd.f44]) (by simp [Tryd.f44]) (G_start ?_) σ
  unfold In64 at hx hn
  have hne : (n = 0) = False := eq_false (by omega)
  have hb1 : Int.tmod x n < n := Int.tmod_lt_of_pos x (by omega)
  have hb2 : -n < Int.tmod x n := Int.lt_tmod_of_pos x (by omega)
  have e1 : IntKind.i64.wrap (Int.tmod x n) = Int.tmod x n := wrap_i64 (by omega) (by omega)
  have hem : x % n = if Int.tmod x n < 0 then Int.tmod x n + n else Int.tmod x n := by
    have h2 := Int.tmod_add_mul_tdiv x n
    split
    · rename_i h
      have : (Int.tmod x n + n + n * (Int.tdiv x n - 1)) % n = Int.tmod x n + n := by rw [Int.add_mul_emod_self_left]; exact Int.emod_eq_of_lt (by omega) (by omega)
      rw [← this]; congr 1; rw [Int.mul_sub]; omega
    · have : (Int.tmod x n + n * Int.tdiv x n) % n = Int.tmod x n := by rw [Int.add_mul_emod_self_left]; exact Int.emod_eq_of_lt (by omega) (by omega)
      rw [← this]; congr 1; omega
  by_cases h : Int.tmod x n < 0
  · rw [if_pos h] at hem
    have e2 : IntKind.i64.wrap (Int.tmod x n + n) = Int.tmod x n + n := wrap_i64 (by omega) (by omega)
    have g : (Int.tmod x n < 0) = True := eq_true h
    simp -implicitDefEqProofs only [Tryd.f44,Wa,Wb,Wc,Wd,We,Wf,Wg,Wh,Wi,Wj,Wk,Wl,Wm,Wn,Zo,Zp,evalT,Nat.reduceLT,Nat.reduceEqDiff,if_true,if_false,reduceIte,Ys,ofVal,ofCell,argT,resT,setT,Y0,Int.reduceEq,Int.reduceLT,Int.reduceLE,Int.reduceNeg,mb,Nat.reduceBEq,tys,stb,empty_mk,hne,e1,g,e2]
    rw [hem]; rfl
  · rw [if_neg h] at hem
    have g : (Int.tmod x n < 0) = False := eq_false h
    simp -implicitDefEqProofs only [Tryd.f44,Wa,Wb,Wc,Wd,We,Wf,Wg,Wh,Wi,Wj,Wk,Wl,Wm,Wn,Zo,Zp,evalT,Nat.reduceLT,Nat.reduceEqDiff,if_true,if_false,reduceIte,Ys,ofVal,ofCell,argT,resT,setT,Y0,Int.reduceEq,Int.reduceLT,Int.reduceLE,Int.reduceNeg,mb,Nat.reduceBEq,tys,stb,empty_mk,hne,e1,g]
    rw [hem]; rfl
abbrev tk (xv : V) (a : Nat) : AObj := .cells [xv, .int .i64 a] 39
theorem len_I' {v : V} {xs : List Int} (h : IsI v xs) (e : TypeId) : vLenT (some (.slice e)) v = some (.int .i64 xs.length) := by rcases h with ⟨rfl, rfl⟩ | rfl | rfl <;> simp [vLenT]
theorem take_call (L : List AObj) (b : Nat) (xv : V) (xs : List Int) (hx : IsI xv xs) (hin : ∀ x ∈ xs, In64 x) (hxl : xs.length < 2 ^ 63) (hb : b < L.length) (a : Nat) (ha : a ≤ xs.length) (n : Int) (hn : In64 n) :
    ∃ (r : Int) (a' : Nat), (∀ ts, callFn env (ev env) 23 [.ptr b 0, .int .i64 n] ⟨L.set b (tk xv a), ts⟩ = some (.int .i64 r, ⟨L.set b (tk xv a'), ts⟩)) ∧ a' ≤ xs.length ∧ 0 ≤ r ∧ (1 ≤ n → r < n) ∧ (n < 1 → r = 0) := by
  have hg : (L.set b (tk xv a))[b]? = some (tk xv a) := List.getElem?_set_self hb
  have hln := len_I' hx 3
  unfold In64 at hn
  by_cases h1 : xs.length ≤ a
  · have g1 : ((a : Int) ≥ (xs.length : Int)) = True := eq_true (by omega)
    refine ⟨0, a, fun ts => ?_, ha, Int.le_refl _, fun h => by omega, fun _ => rfl⟩
    refine callFn_eq rfl rfl at23 rfl (by simp [Tryd.f23]) (by simp [Tryd.f23]) (G_start ?_)
    simp -implicitDefEqProofs only [Tryd.f23,Wa,Wb,Wc,Wd,We,Wf,Wg,Wh,Wi,Wj,Wk,Wl,Wm,Wn,Zo,Zp,evalT,Nat.reduceLT,Nat.reduceEqDiff,if_true,if_false,reduceIte,Ys,ofVal,ofCell,argT,resT,setT,Y0,Int.reduceEq,Int.reduceLT,Int.reduceLE,Int.reduceNeg,mb,Nat.reduceBEq,tys,stb,Va,storeList,Nat.reduceAdd,Nat.reduceLeDiff,opT_nilCheck,nilO_ptr,hg,hln,g1,vBin_sneq]
    exact ⟨by kernel_rfl, rfl, trivial⟩
  have g1 : ((a : Int) ≥ (xs.length : Int)) = False := eq_false (by omega)
  by_cases h2 : n < 1
  · have g2 : (n < 1) = True := eq_true h2
    refine ⟨0, a, fun ts => ?_, ha, Int.le_refl _, fun h => by omega, fun _ => rfl⟩
    refine callFn_eq rfl rfl at23 rfl (by simp [Tryd.f23]) (by simp [Tryd.f23]) (G_start ?_)
    simp -implicitDefEqProofs only [Tryd.f23,Wa,Wb,Wc,Wd,We,Wf,Wg,Wh,Wi,Wj,Wk,Wl,Wm,Wn,Zo,Zp,evalT,Nat.reduceLT,Nat.reduceEqDiff,if_true,if_false,reduceIte,Ys,ofVal,ofCell,argT,resT,setT,Y0,Int.reduceEq,Int.reduceLT,Int.reduceLE,Int.reduceNeg,mb,Nat.reduceBEq,tys,stb,Va,storeList,Nat.reduceAdd,Nat.reduceLeDiff,opT_nilCheck,nilO_ptr,hg,hln,g1,g2,vBin_sneq]
    exact ⟨by kernel_rfl, rfl, trivial⟩
  have g2 : (n < 1) = False := eq_false h2
  have hx64 := getD_in hin a
  have hP := pick_call (xs.getD a 0) n hx64 hn (by omega)
  have e1 : IntKind.i64.wrap ((a : Int) + 1) = ((a + 1 : Nat) : Int) := by rw [wrap_i64 (by omega) (by omega)]; omega
  have e2 : IntKind.i64.wrap (((a + 1 : Nat) : Int) - 1) = (a : Int) := by rw [wrap_i64 (by omega) (by omega)]; omega
  have hxv := idx_I hx (show a < xs.length by omega)
  have hg2 : ((L.set b (tk xv a)).set b (tk xv (a + 1)))[b]? = some (tk xv (a + 1)) := by rw [List.set_set]; exact List.getElem?_set_self hb
  refine ⟨xs.getD a 0 % n, a + 1, fun ts => ?_, by omega, Int.emod_nonneg _ (by omega), fun _ => Int.emod_lt_of_pos _ (by omega), fun h => absurd h h2⟩
  refine callFn_eq rfl rfl at23 rfl (by simp [Tryd.f23]) (by simp [Tryd.f23]) (G_start ?_)
  simp -implicitDefEqProofs only [Tryd.f23,Wa,Wb,Wc,Wd,We,Wf,Wg,Wh,Wi,Wj,Wk,Wl,Wm,Wn,Zo,Zp,evalT,Nat.reduceLT,Nat.reduceEqDiff,if_true,if_false,reduceIte,Ys,ofVal,ofCell,argT,resT,setT,Y0,Int.reduceEq,Int.reduceLT,Int.reduceLE,Int.reduceNeg,mb,Nat.reduceBEq,tys,stb,Va,storeList,Nat.reduceAdd,Nat.reduceLeDiff,opT_nilCheck,nilO_ptr,hg,hln,g1,g2,vBin_sneq,e1,hg2,e2,hxv,hP,load_hd]
  exact ⟨by kernel_rfl, rfl, by kernel_rfl, rfl, by rw [List.set_set]⟩
theorem build52c (s : List UInt8) : buildO env 52 [(0, .int .i64 2), (2, .str s)] = some (.agg [.int .i64 2, .int .i64 0, .str s]) := by kernel_rfl
theorem build52o (x : Int) : buildO env 52 [(0, .int .i64 x)] = some (.agg [.int .i64 x, .int .i64 0, .str []]) := by kernel_rfl
theorem build52n (x n : Int) : buildO env 52 [(0, .int .i64 x), (1, .int .i64 n)] = some (.agg [.int .i64 x, .int .i64 n, .str []]) := by kernel_rfl
def Nd.v (x : Nd) : V := .agg [.int .i64 x.op, .int .i64 x.n, .str x.col]
theorem column_call (s : List UInt8) (σ : S) : callFn env (ev env) 27 [.str s] σ = some (Nd.v ⟨2, 0, s⟩, σ) := by
  refine callFn_pure rfl rfl rfl at27 rfl (by simp [Tryd.f27]) (by simp [Tryd.f27]) (G_start ?_) σ
  simp -implicitDefEqProofs only [Tryd.f27,Wa,Wb,Wc,Wd,We,Wf,Wg,Wh,Wi,Wj,Wk,Wl,Wm,Wn,Zo,Zp,evalT,Nat.reduceLT,Nat.reduceEqDiff,if_true,if_false,reduceIte,Ys,ofVal,ofCell,argT,resT,setT,Y0,Int.reduceEq,Int.reduceLT,Int.reduceLE,Int.reduceNeg,mb,Nat.reduceBEq,tys,stb,Va,storeList,Nat.reduceAdd,Nat.reduceLeDiff,empty_mk,build52c,isCell_int,isCell_str]
  exact V1i rfl rfl
theorem op_call (n : Int) (σ : S) : callFn env (ev env) 29 [.int .i64 n] σ = some (Nd.v ⟨n, 0, []⟩, σ) := by
  refine callFn_pure rfl rfl rfl at29 rfl (by simp [Tryd.f29]) (by simp [Tryd.f29]) (G_start ?_) σ
  simp -implicitDefEqProofs only [Tryd.f29,Wa,Wb,Wc,Wd,We,Wf,Wg,Wh,Wi,Wj,Wk,Wl,Wm,Wn,Zo,Zp,evalT,Nat.reduceLT,Nat.reduceEqDiff,if_true,if_false,reduceIte,Ys,ofVal,ofCell,argT,resT,setT,Y0,Int.reduceEq,Int.reduceLT,Int.reduceLE,Int.reduceNeg,mb,Nat.reduceBEq,tys,stb,Va,storeList,Nat.reduceAdd,Nat.reduceLeDiff,empty_mk,build52o,isCell_int,isCell_str]
  exact V1i rfl rfl
theorem number_call (n : Int) (σ : S) : callFn env (ev env) 31 [.int .i64 n] σ = some (Nd.v ⟨1, n, []⟩, σ) := by
  refine callFn_pure rfl rfl rfl at31 rfl (by simp [Tryd.f31]) (by simp [Tryd.f31]) (G_start ?_) σ
  simp -implicitDefEqProofs only [Tryd.f31,Wa,Wb,Wc,Wd,We,Wf,Wg,Wh,Wi,Wj,Wk,Wl,Wm,Wn,Zo,Zp,evalT,Nat.reduceLT,Nat.reduceEqDiff,if_true,if_false,reduceIte,Ys,ofVal,ofCell,argT,resT,setT,Y0,Int.reduceEq,Int.reduceLT,Int.reduceLE,Int.reduceNeg,mb,Nat.reduceBEq,tys,stb,Va,storeList,Nat.reduceAdd,Nat.reduceLeDiff,empty_mk,build52n,isCell_int,isCell_str]
  exact V1i rfl rfl
end Go.Proofs.YtcjapamldllleaaDoor.N
namespace Go.Proofs.YtcjapamldllleaaDoor.N
open Go.Ab
set_option maxHeartbeats 4000000
set_option maxHeartbeats 4000000
set_option maxRecDepth 100000
set_option linter.unusedSimpArgs false
set_option linter.unusedVariables false
theorem eN : Elt env 22 52 3 32 := ⟨by kernel_rfl, by kernel_rfl, by kernel_rfl, by kernel_rfl, by kernel_rfl⟩
theorem eC : Elt env 23 46 4 56 := ⟨by kernel_rfl, by kernel_rfl, by kernel_rfl, by kernel_rfl, by kernel_rfl⟩
theorem eI : Elt env 24 3 1 8 := ⟨by kernel_rfl, by kernel_rfl, by kernel_rfl, by kernel_rfl, by kernel_rfl⟩
theorem flatN_len : ∀ l : List Nd, (flatN l).length = l.length * 3
  | [] => rfl
  | x :: l => by rw [flatN_cons]; simp only [List.length_cons, flatN_len l]; omega
theorem flatN_app (a b : List Nd) : flatN (a ++ b) = flatN a ++ flatN b := by simp [flatN]
theorem rowN1 (a b c : V) : rowO env 22 1 [(0, .agg [a, b, c])] = some (.row [a, b, c] 1 .full) := by kernel_rfl
theorem rowN2 (a b c d e f : V) : rowO env 22 2 [(0, .agg [a, b, c]), (1, .agg [d, e, f])] = some (.row [a, b, c, d, e, f] 2 .full) := by kernel_rfl
theorem rowC1 (a b c d : V) : rowO env 23 1 [(0, .agg [a, b, c, d])] = some (.row [a, b, c, d] 1 .full) := by kernel_rfl
theorem rowI1 (a : Int) : rowO env 24 1 [(0, .int .i64 a)] = some (.row [.int .i64 a] 1 .full) := by kernel_rfl
abbrev GN (base : Nat) (ts : List Nat) (v : V) (l : List Nd) : Prop := GrowV base ts 3 v l.length (flatN l)
theorem GN.push {base : Nat} {hp : List AObj} {ts : List Nat} {v : V} {l : List Nd} (g : GN base ts v l) (hb : base ≤ ts.length) (x : Nd) (q : RCap) (hl : l.length ≤ 4000) : ∃ v' ts', appO env false ⟨hp, ts⟩ 22 22 v (.row [.int .i64 x.op, .int .i64 x.n, .str x.col] 1 q) = some (v', ⟨hp, ts'⟩) ∧ GN base ts' v' (l ++ [x]) ∧ Ext base ts ts' := by
  have hlim : lim = 2 ^ 40 := rfl
  have := GrowV.push (E := env) (hp := hp) (q := q) (new := [.int .i64 x.op, .int .i64 x.n, .str x.col]) eN ⟨52, eN.slice⟩ g hb rfl (by simp [V.isCell]) ⟨by rw [hlim]; omega, by rw [hlim]; omega⟩
  obtain ⟨v', ts', h1, h2, h3⟩ := this
  refine ⟨v', ts', h1, ?_, h3⟩
  unfold GN
  rw [List.length_append, flatN_app]; exact h2
theorem GN.append {base : Nat} {hp : List AObj} {ts : List Nat} {v y : V} {l m : List Nd} (g : GN base ts v l) (hb : base ≤ ts.length) (hy : vLen y = some m.length) (hc : vCells hp 3 m.length y = some (flatN m)) (hl : l.length ≤ 4000) (hm : m.length ≤ 4000) : ∃ v' ts', appO env false ⟨hp, ts⟩ 22 22 v y = some (v', ⟨hp, ts'⟩) ∧ GN base ts' v' (l ++ m) ∧ Ext base ts ts' := by
  have hlim : lim = 2 ^ 40 := rfl
  have hcell : (flatN m).all V.isCell = true := by
    induction m with
    | nil => rfl
    | cons x m ih => simp only [List.length_cons] at hm; rw [flatN_cons]; simp only [List.all_cons, V.isCell, Bool.true_and]; clear hy hc hm ih; induction m with
      | nil => rfl
      | cons x m ih => rw [flatN_cons]; simp only [List.all_cons, V.isCell, Bool.true_and]; exact ih
  have := GrowV.append (E := env) eN ⟨52, eN.slice⟩ g hb hy hc (flatN_len m) hcell ⟨by rw [hlim]; omega, by rw [hlim]; omega⟩
  obtain ⟨v', ts', h1, h2, h3⟩ := this
  refine ⟨v', ts', h1, ?_, h3⟩
  unfold GN
  rw [List.length_append, flatN_app]; exact h2
theorem GN.full (base : Nat) (ts : List Nat) (l : List Nd) : GN base ts (.row (flatN l) l.length .full) l := GrowV.full _ _ (flatN_len l)
theorem flatC_at' {cs : List Col} {i : Nat} (h : i < cs.length) : ∃ r, (flatC cs).drop (i * 4) = .str (cs.getD i Col.none).name :: .int .i64 (cs.getD i Col.none).lo :: .int .i64 (cs.getD i Col.none).hi :: (cs.getD i Col.none).w :: r := by
  induction cs generalizing i with
  | nil => simp at h
  | cons c cs ih =>
    cases i with
    | zero => exact ⟨flatC cs, by rw [flatC_cons]; rfl⟩
    | succ i =>
      obtain ⟨r, hr⟩ := ih (i := i) (by simpa using h)
      refine ⟨r, ?_⟩
      rw [flatC_cons, show (i + 1) * 4 = i * 4 + 1 + 1 + 1 + 1 by omega]
      simp only [List.drop_succ_cons, List.getD_cons_succ]
      exact hr
theorem idx_C' (cs : List Col) (q : RCap) {i : Nat} (h : i < cs.length) : ∃ r, vIndexAddr 4 (.row (flatC cs) cs.length q) (.int .i64 i) = some (.rptr (.str (cs.getD i Col.none).name :: .int .i64 (cs.getD i Col.none).lo :: .int .i64 (cs.getD i Col.none).hi :: (cs.getD i Col.none).w :: r)) := by
  obtain ⟨r, hr⟩ := flatC_at' h
  exact ⟨r, by rw [Ys, if_pos (by omega), Int.toNat_natCast, hr]⟩
theorem at24 : env.P.funcs[24]? = some Tryd.f24 := by kernel_rfl
inductive Sgl (cs : List Col) : Nat → Ex → Prop where
  | first : Sgl cs 0 (.col (cs.getD 0 Col.none).name)
  | neg {i : Nat} {e : Ex} : Sgl cs i e → Sgl cs i (.una 7 e)
  | next {i : Nat} {e : Ex} (op : Int) : Sgl cs i e → 4 ≤ op → op ≤ 6 → Sgl cs (i + 1) (.bin op e (.col (cs.getD (i + 1) Col.none).name))
  | num {i : Nat} {e : Ex} (op n : Int) : Sgl cs i e → 4 ≤ op → op ≤ 6 → 0 ≤ n → n ≤ 5 → Sgl cs i (.bin op e (.num n))
theorem single_call (L : List AObj) (ts : List Nat) (b : Nat) (xv : V) (xs : List Int) (hx : IsI xv xs) (hin : ∀ x ∈ xs, In64 x) (hxl : xs.length < 2 ^ 63) (hb : b < L.length) (a : Nat) (ha : a ≤ xs.length) (cs : List Col) (q : RCap) (h1 : 1 ≤ cs.length) (h2 : cs.length ≤ 4) :
    ∃ v σ', callFn env (ev env) 24 [.ptr b 0, .row (flatC cs) cs.length q] ⟨L.set b (tk xv a), ts⟩ = some (v, σ') ∧ ∃ (e : Ex) (a' : Nat) (ts' : List Nat), σ' = ⟨L.set b (tk xv a'), ts'⟩ ∧ GN ts.length ts' v e.post ∧ Ext ts.length ts ts' ∧ a' ≤ xs.length ∧ Sgl cs (cs.length - 1) e ∧ e.post.length ≤ 20 := by
  refine callFn_any rfl rfl at24 rfl (by simp [Tryd.f24]) (by simp [Tryd.f24]) (G_start ?_)
  obtain ⟨r0, hx0⟩ := idx_C' cs q (show 0 < cs.length by omega)
  have hx0 : vIndexAddr 4 (.row (flatC cs) cs.length q) (.int .i64 0) = _ := hx0
  have hC0 := column_call (cs.getD 0 Col.none).name
  unfold Nd.v at hC0
  simp -implicitDefEqProofs only [Tryd.f24,Wa,Wb,Wc,Wd,We,Wf,Wg,Wh,Wi,Wj,Wk,Wl,Wm,Wn,Zo,Zp,evalT,Nat.reduceLT,Nat.reduceEqDiff,if_true,if_false,reduceIte,Ys,ofVal,ofCell,argT,resT,setT,Y0,Int.reduceEq,Int.reduceLT,Int.reduceLE,Int.reduceNeg,mb,Nat.reduceBEq,tys,stb,Va,storeList,Nat.reduceAdd,Nat.reduceLeDiff,-Ys,hx0,load_hd,hC0,opT_rowO,rowN1]
  refine loop_rule (fun m T D σ => D = [] ∧ T 0 = .ptr b 0 ∧ T 1 = .row (flatC cs) cs.length q ∧ ∃ (j a : Nat) (ts' : List Nat) (e : Ex) (v : V), σ = ⟨L.set b (tk xv a), ts'⟩ ∧ T 5 = v ∧ GN ts.length ts' v e.post ∧ Ext ts.length ts ts' ∧ T 6 = .int .i64 ((j + 1 : Nat) : Int) ∧ Sgl cs j e ∧ e.post.length ≤ 1 + 5 * j ∧ a ≤ xs.length ∧ j < cs.length ∧ m = cs.length - j) ?_ (cs.length - 0) _ _ _
    ⟨rfl, rfl, rfl, 0, a, ts, .col (cs.getD 0 Col.none).name, _, rfl, rfl, GN.full _ _ [⟨2, 0, (cs.getD 0 Col.none).name⟩], .rfl' _ _, rfl, .first, by simp [Ex.post], ha, by omega, rfl⟩
  clear hx0 hC0 ha a
  rintro m T D σ ⟨rfl, t0, t1, j, a, ts', e, v, rfl, t5, hg, hE, t6, hS, hel, ha, hj, rfl⟩
  refine G_start ?_
  have hbl : ts.length ≤ ts'.length := hE.1
  by_cases hlt : j + 1 < cs.length
  · have c1 : ((j + 1 : Nat) : Int) < (cs.length : Int) := by omega
    have e1 : IntKind.i64.wrap (((j + 1 : Nat) : Int) + 1) = ((j + 1 + 1 : Nat) : Int) := by rw [wrap_i64 (by omega) (by omega)]; omega
    obtain ⟨r0, hx1⟩ := idx_C' cs q hlt
    have hC1 := column_call (cs.getD (j + 1) Col.none).name
    unfold Nd.v at hC1
    obtain ⟨k1, a1, hT1, ha1, b1, b2, _⟩ := take_call L b xv xs hx hin hxl hb a ha 3 (by simp [In64])
    obtain ⟨k2, a2, hT2, ha2, b3, b4, _⟩ := take_call L b xv xs hx hin hxl hb a1 ha1 3 (by simp [In64])
    obtain ⟨k3, a3, hT3, ha3, b5, b6, _⟩ := take_call L b xv xs hx hin hxl hb a2 ha2 3 (by simp [In64])
    have b2 := b2 (by decide); have b4 := b4 (by decide); have b6 := b6 (by decide)
    have e2 : IntKind.i64.wrap (4 + k2) = 4 + k2 := wrap_i64 (by omega) (by omega)
    have hO2 := op_call (4 + k2)
    unfold Nd.v at hO2
    have hO7 := op_call 7
    unfold Nd.v at hO7
    -- after the first number: perhaps negated
    obtain ⟨e', v1, ts1, hneg, hg1, hE1, hS1, hl1⟩ : ∃ (e' : Ex) (v1 : V) (ts1 : List Nat), (k1 = 2 → appO env false ⟨L.set b (tk xv a1), ts'⟩ 22 22 v (.row [.int .i64 7, .int .i64 0, .str []] 1 .full) = some (v1, ⟨L.set b (tk xv a1), ts1⟩)) ∧ GN ts.length ts1 v1 e'.post ∧ Ext ts.length ts' ts1 ∧ Sgl cs j e' ∧ e'.post.length ≤ e.post.length + 1 ∧ (¬ k1 = 2 → v1 = v ∧ ts1 = ts') := by
      by_cases h : k1 = 2
      · obtain ⟨v1, ts1, p1, p2, p3⟩ := GN.push (hp := L.set b (tk xv a1)) hg hbl ⟨7, 0, []⟩ .full (by omega)
        exact ⟨.una 7 e, v1, ts1, fun _ => p1, p2, p3, hS.neg, by simp [Ex.post], fun hh => absurd h hh⟩
      · exact ⟨e, v, ts', fun hh => absurd hh h, hg, .rfl' _ _, hS, by omega, fun _ => ⟨rfl, rfl⟩⟩
    obtain ⟨hl1, hno⟩ := hl1
    have hbl1 : ts.length ≤ ts1.length := Nat.le_trans hbl hE1.1
    obtain ⟨v2, ts2, hA2, hg2, hE2⟩ := GN.append (hp := L.set b (tk xv a2)) (m := [⟨2, 0, (cs.getD (j + 1) Col.none).name⟩, ⟨4 + k2, 0, []⟩]) (y := .row [.int .i64 2, .int .i64 0, .str (cs.getD (j + 1) Col.none).name, .int .i64 (4 + k2), .int .i64 0, .str []] 2 .full) hg1 hbl1 rfl (by simp [vCells, flatN, Nd.cells]) (by omega) (by simp)
    have hbl2 : ts.length ≤ ts2.length := Nat.le_trans hbl1 hE2.1
    have hS2 : Sgl cs (j + 1) (.bin (4 + k2) e' (.col (cs.getD (j + 1) Col.none).name)) := hS1.next (4 + k2) (by omega) (by omega)
    have hp2 : (Ex.bin (4 + k2) e' (.col (cs.getD (j + 1) Col.none).name)).post = e'.post ++ [⟨2, 0, (cs.getD (j + 1) Col.none).name⟩, ⟨4 + k2, 0, []⟩] := by simp [Ex.post]
    rw [← hp2] at hg2
    have hl2 : (Ex.bin (4 + k2) e' (.col (cs.getD (j + 1) Col.none).name)).post.length ≤ e.post.length + 3 := by rw [hp2]; simp; omega
    generalize Ex.bin (4 + k2) e' (.col (cs.getD (j + 1) Col.none).name) = e2' at hg2 hS2 hl2
    clear hp2
    by_cases h3 : k3 = 2
    · have g3 : (k3 = 2) = True := eq_true h3
      obtain ⟨k4, a4, hT4, ha4, b7, b8, _⟩ := take_call L b xv xs hx hin hxl hb a3 ha3 5 (by simp [In64])
      obtain ⟨k5, a5, hT5, ha5, b9, b10, _⟩ := take_call L b xv xs hx hin hxl hb a4 ha4 3 (by simp [In64])
      have b8 := b8 (by decide); have b10 := b10 (by decide)
      have e3 : IntKind.i64.wrap (4 + k5) = 4 + k5 := wrap_i64 (by omega) (by omega)
      have hO5 := op_call (4 + k5)
      unfold Nd.v at hO5
      have hN4 := number_call k4
      unfold Nd.v at hN4
      obtain ⟨v3, ts3, hA3, hg3, hE3⟩ := GN.append (hp := L.set b (tk xv a5)) (m := [⟨1, k4, []⟩, ⟨4 + k5, 0, []⟩]) (y := .row [.int .i64 1, .int .i64 k4, .str [], .int .i64 (4 + k5), .int .i64 0, .str []] 2 .full) hg2 hbl2 rfl (by simp [vCells, flatN, Nd.cells]) (by omega) (by simp)
      have hS3 : Sgl cs (j + 1) (.bin (4 + k5) e2' (.num k4)) := hS2.num (4 + k5) k4 (by omega) (by omega) (by omega) (by omega)
      have hp3 : (Ex.bin (4 + k5) e2' (.num k4)).post = e2'.post ++ [⟨1, k4, []⟩, ⟨4 + k5, 0, []⟩] := by simp [Ex.post]
      rw [← hp3] at hg3
      have hfin : ∃ m', m' < cs.length - j ∧ ∃ (j2 a : Nat) (ts' : List Nat) (e : Ex) (v : V), (⟨L.set b (tk xv a5), ts3⟩ : S) = ⟨L.set b (tk xv a), ts'⟩ ∧ v3 = v ∧ GN ts.length ts' v e.post ∧ Ext ts.length ts ts' ∧ V.int .i64 ((j + 1 + 1 : Nat) : Int) = .int .i64 ((j2 + 1 : Nat) : Int) ∧ Sgl cs j2 e ∧ e.post.length ≤ 1 + 5 * j2 ∧ a ≤ xs.length ∧ j2 < cs.length ∧ m' = cs.length - j2 :=
        ⟨cs.length - (j + 1), by omega, j + 1, a5, ts3, _, v3, rfl, rfl, hg3, (((hE.trans hE1).trans hE2).trans hE3), rfl, hS3, by rw [hp3]; simp; omega, ha5, hlt, rfl⟩
      by_cases h1 : k1 = 2
      · have g1 : (k1 = 2) = True := eq_true h1
        have hneg := hneg h1
        simp -implicitDefEqProofs only [Wa,Wb,Wc,Wd,We,Wf,Wg,Wh,Wi,Wj,Wk,Wl,Wm,Wn,Zo,Zp,evalT,Nat.reduceLT,Nat.reduceEqDiff,if_true,if_false,reduceIte,Ys,ofVal,ofCell,argT,resT,setT,Y0,Int.reduceEq,Int.reduceLT,Int.reduceLE,Int.reduceNeg,mb,Nat.reduceBEq,tys,stb,Va,storeList,Nat.reduceAdd,Nat.reduceLeDiff,t0,t1,t5,t6,-Ys,c1,e1,hT1,g1,hO7,opT_rowO,rowN1,rowN2,hneg,hx1,load_hd,hC1,hT2,e2,hO2,hA2,hT3,g3,hT4,hN4,hT5,e3,hO5,hA3]
        exact hfin
      · have g1 : (k1 = 2) = False := eq_false h1
        obtain ⟨rfl, rfl⟩ := hno h1
        simp -implicitDefEqProofs only [Wa,Wb,Wc,Wd,We,Wf,Wg,Wh,Wi,Wj,Wk,Wl,Wm,Wn,Zo,Zp,evalT,Nat.reduceLT,Nat.reduceEqDiff,if_true,if_false,reduceIte,Ys,ofVal,ofCell,argT,resT,setT,Y0,Int.reduceEq,Int.reduceLT,Int.reduceLE,Int.reduceNeg,mb,Nat.reduceBEq,tys,stb,Va,storeList,Nat.reduceAdd,Nat.reduceLeDiff,t0,t1,t5,t6,-Ys,c1,e1,hT1,g1,hO7,opT_rowO,rowN1,rowN2,hx1,load_hd,hC1,hT2,e2,hO2,hA2,hT3,g3,hT4,hN4,hT5,e3,hO5,hA3]
        exact hfin
    · have g3 : (k3 = 2) = False := eq_false h3
      have hfin : ∃ m', m' < cs.length - j ∧ ∃ (j2 a : Nat) (ts' : List Nat) (e : Ex) (v : V), (⟨L.set b (tk xv a3), ts2⟩ : S) = ⟨L.set b (tk xv a), ts'⟩ ∧ v2 = v ∧ GN ts.length ts' v e.post ∧ Ext ts.length ts ts' ∧ V.int .i64 ((j + 1 + 1 : Nat) : Int) = .int .i64 ((j2 + 1 : Nat) : Int) ∧ Sgl cs j2 e ∧ e.post.length ≤ 1 + 5 * j2 ∧ a ≤ xs.length ∧ j2 < cs.length ∧ m' = cs.length - j2 :=
        ⟨cs.length - (j + 1), by omega, j + 1, a3, ts2, _, v2, rfl, rfl, hg2, ((hE.trans hE1).trans hE2), rfl, hS2, by omega, ha3, hlt, rfl⟩
      by_cases h1 : k1 = 2
      · have g1 : (k1 = 2) = True := eq_true h1
        have hneg := hneg h1
        simp -implicitDefEqProofs only [Wa,Wb,Wc,Wd,We,Wf,Wg,Wh,Wi,Wj,Wk,Wl,Wm,Wn,Zo,Zp,evalT,Nat.reduceLT,Nat.reduceEqDiff,if_true,if_false,reduceIte,Ys,ofVal,ofCell,argT,resT,setT,Y0,Int.reduceEq,Int.reduceLT,Int.reduceLE,Int.reduceNeg,mb,Nat.reduceBEq,tys,stb,Va,storeList,Nat.reduceAdd,Nat.reduceLeDiff,t0,t1,t5,t6,-Ys,c1,e1,hT1,g1,hO7,opT_rowO,rowN1,rowN2,hneg,hx1,load_hd,hC1,hT2,e2,hO2,hA2,hT3,g3]
        exact hfin
      · have g1 : (k1 = 2) = False := eq_false h1
        obtain ⟨rfl, rfl⟩ := hno h1
        simp -implicitDefEqProofs only [Wa,Wb,Wc,Wd,We,Wf,Wg,Wh,Wi,Wj,Wk,Wl,Wm,Wn,Zo,Zp,evalT,Nat.reduceLT,Nat.reduceEqDiff,if_true,if_false,reduceIte,Ys,ofVal,ofCell,argT,resT,setT,Y0,Int.reduceEq,Int.reduceLT,Int.reduceLE,Int.reduceNeg,mb,Nat.reduceBEq,tys,stb,Va,storeList,Nat.reduceAdd,Nat.reduceLeDiff,t0,t1,t5,t6,-Ys,c1,e1,hT1,g1,hO7,opT_rowO,rowN1,rowN2,hx1,load_hd,hC1,hT2,e2,hO2,hA2,hT3,g3]
        exact hfin
  · have c1 : ¬ ((j + 1 : Nat) : Int) < (cs.length : Int) := by omega
    simp -implicitDefEqProofs only [Wa,Wb,Wc,Wd,We,Wf,Wg,Wh,Wi,Wj,Wk,Wl,Wm,Wn,Zo,Zp,evalT,Nat.reduceLT,Nat.reduceEqDiff,if_true,if_false,reduceIte,Ys,ofVal,ofCell,argT,resT,setT,Y0,Int.reduceEq,Int.reduceLT,Int.reduceLE,Int.reduceNeg,mb,Nat.reduceBEq,tys,stb,Va,storeList,Nat.reduceAdd,Nat.reduceLeDiff,t0,t1,t5,t6,c1]
    exact ⟨e, a, ts', rfl, hg, hE, ha, by rw [show cs.length - 1 = j by omega]; exact hS, by omega⟩
end Go.Proofs.YtcjapamldllleaaDoor.N
namespace Go.Proofs.YtcjapamldllleaaDoor.N
open Go.Ab
set_option maxHeartbeats 4000000
set_option maxHeartbeats 4000000
set_option maxRecDepth 100000
set_option linter.unusedSimpArgs false
set_option linter.unusedVariables false
theorem callW {E : Env} {f : FuncId} {args : List V} {v : V} (hp : E.pure f = true) (hk : E.hook f = none) (h1 : args.all V.closed = true → ∀ σ, callFn E (ev E) f args σ = some (v, σ))
    (h2 : (args.map V.weak).all V.closed = true) (h3 : ∀ σ, callFn E (ev E) f (args.map V.weak) σ = some (v, σ)) (σ : S) : callFn E (ev E) f args σ = some (v, σ) := by
  cases h : args.all V.closed with
  | true => exact h1 h σ
  | false => rw [callFn_weak hp hk h h2 σ]; exact h3 σ
theorem weakL_flatN : ∀ l : List Nd, V.weak.weakL (flatN l) = flatN l
  | [] => rfl
  | x :: l => by rw [flatN_cons]; simp only [V.weak.weakL, V.weak, weakL_flatN l]
def RN (v : V) (l : List Nd) : Prop := (v.closed = true → IsN v l) ∧ IsN v.weak l
def RC (v : V) (cs : List Col) : Prop := (v.closed = true → IsC v cs) ∧ IsC v.weak cs
def RI (v : V) (xs : List Int) : Prop := (v.closed = true → IsI v xs) ∧ IsI v.weak xs
theorem flatN_nil {l : List Nd} (h : (flatN l) = []) : l = [] := by
  cases l with
  | nil => rfl
  | cons x l => rw [flatN_cons] at h; simp at h
theorem RN.grow {base : Nat} {ts : List Nat} {v : V} {l : List Nd} (g : GN base ts v l) : RN v l := by
  unfold GN at g
  generalize hc : flatN l = cs at g
  generalize hn : l.length = n at g
  cases g with
  | nil => exact ⟨fun _ => .inl ⟨rfl, flatN_nil hc⟩, .inl ⟨rfl, flatN_nil hc⟩⟩
  | full _ _ hl => subst hc hn; exact ⟨fun _ => .inr (.inr rfl), .inr (.inr (by simp only [V.weak, weakL_flatN, RCap.weak]))⟩
  | tok _ _ k e hl hb ht => subst hc hn; exact ⟨fun h => by simp [V.closed] at h, .inr (.inl (by simp only [V.weak, weakL_flatN, RCap.weak]))⟩
theorem RC.row {cs : List Col} (ok : OkC cs) (q : RCap) : RC (.row (flatC cs) cs.length q) cs := by
  refine ⟨fun h => ?_, ?_⟩
  · cases q with
    | full => exact .inr ⟨.full, .inr rfl, rfl⟩
    | unk => exact .inr ⟨.unk, .inl rfl, rfl⟩
    | tok k e w => simp [V.closed] at h
  · have := weakL_flatC ok
    cases q with
    | full => exact .inr ⟨.full, .inr rfl, by simp only [V.weak, this, RCap.weak]⟩
    | unk => exact .inr ⟨.unk, .inl rfl, by simp only [V.weak, this, RCap.weak]⟩
    | tok k e w => exact .inr ⟨.unk, .inl rfl, by simp only [V.weak, this, RCap.weak]⟩
theorem RI.row (xs : List Int) (q : RCap) : RI (.row (xs.map (V.int .i64)) xs.length q) xs := by
  refine ⟨fun h => ?_, ?_⟩
  · cases q with
    | full => exact .inr (.inr rfl)
    | unk => exact .inr (.inl rfl)
    | tok k e w => simp [V.closed] at h
  · cases q with
    | full => exact .inr (.inr (by simp only [V.weak, weakL_ints', RCap.weak]))
    | unk => exact .inr (.inl (by simp only [V.weak, weakL_ints', RCap.weak]))
    | tok k e w => exact .inr (.inl (by simp only [V.weak, weakL_ints', RCap.weak]))
structure Fit (v : V) (l : List Nd) (cv : V) (cs : List Col) : Prop where
  hv : RN v l
  hl : l.length ≤ 1000
  hc : RC cv cs
  ok : OkC cs
  hcl : cs.length ≤ 1000
  hs : ∀ i, i < cs.length → Short (cs.getD i Col.none)
section
variable {v : V} {l : List Nd} {cv : V} {cs : List Col} {xv : V} {xs : List Int}
theorem Fit.closed (F : Fit v l cv cs) (h : v.closed = true) (h2 : cv.closed = true) : Fine v l cv cs := ⟨F.hv.1 h, F.hl, F.hc.1 h2, F.ok, F.hcl, F.hs⟩
theorem Fit.weak (F : Fit v l cv cs) : Fine v.weak l cv.weak cs := ⟨F.hv.2, F.hl, F.hc.2, F.ok, F.hcl, F.hs⟩
open Classical in
theorem of_call (F : Fit v l cv cs) (σ : S) : callFn env (ev env) 14 [v, cv] σ = some (.tup (if Acc l cs false then [.int .i64 (spanV l cs).1, .int .i64 (spanV l cs).2] else [.int .i64 0, .int .i64 0]), σ) := by
  refine call_of hk14 (callW rfl rfl (fun h => ?_) ?_ ?_) _ σ
  · simp only [List.all_cons, List.all_nil, Bool.and_true, Bool.and_eq_true] at h
    exact YtcjapamldllleaaDoor.of_call (F.closed h.1 h.2)
  · have := F.weak
    simp only [List.map_cons, List.map_nil, List.all_cons, List.all_nil, closed_C this.hc this.ok, closed_N this.hv, Bool.and_self]
  · exact YtcjapamldllleaaDoor.of_call F.weak
structure FitI (xv : V) (xs : List Int) : Prop where
  hx : RI xv xs
  hxl : xs.length ≤ 1000
  hin : ∀ x ∈ xs, In64 x
theorem value_call (F : Fit v l cv cs) (G : FitI xv xs) (σ : S) : callFn env (ev env) 10 [v, cv, xv] σ = some (.int .i64 (valueV l cs xs), σ) := by
  refine call_of hk10 (callW rfl rfl (fun h => ?_) ?_ ?_) _ σ
  · simp only [List.all_cons, List.all_nil, Bool.and_true, Bool.and_eq_true] at h
    exact YtcjapamldllleaaDoor.value_call (F.closed h.1 h.2.1) ⟨G.hx.1 h.2.2, G.hxl, G.hin⟩
  · have := F.weak
    simp only [List.map_cons, List.map_nil, List.all_cons, List.all_nil, closed_C this.hc this.ok, closed_N this.hv, closed_I G.hx.2, Bool.and_self]
  · exact YtcjapamldllleaaDoor.value_call F.weak ⟨G.hx.2, G.hxl, G.hin⟩
end
open Classical in
theorem of_tree {v cv : V} {e : Ex} {cs : List Col} (F : Fit v e.post cv cs) (hP : Proper cs) (hw : WF cs e) (hl : e.post.length ≤ 200) (hk : e.kind = 0) (σ : S) : callFn env (ev env) 14 [v, cv] σ = some (.tup [.int .i64 (e.spn cs).1, .int .i64 (e.spn cs).2], σ) := by
  obtain ⟨w1, w2, w3⟩ := Ex.whole hw hl
  have hA : Acc e.post cs false := ⟨by rw [w1, hk]; simp, hP⟩
  have h := of_call F σ
  rw [if_pos hA, w3] at h
  exact h
open Classical in
theorem value_tree {v cv xv : V} {e : Ex} {cs : List Col} {xs : List Int} (F : Fit v e.post cv cs) (G : FitI xv xs) (hP : Proper cs) (hf : Fits cs xs) (hw : WF cs e) (hl : e.post.length ≤ 200) (hk : e.kind = 0) (σ : S) : callFn env (ev env) 10 [v, cv, xv] σ = some (.int .i64 (e.val cs xs), σ) := by
  obtain ⟨w1, w2, w3⟩ := Ex.whole hw hl
  have hA : Acc e.post cs false := ⟨by rw [w1, hk]; simp, hP⟩
  have h := value_call F G σ
  unfold valueV at h
  rw [if_pos ⟨hA, hf⟩, w2] at h
  exact h
end Go.Proofs.YtcjapamldllleaaDoor.N
namespace Go.Proofs.YtcjapamldllleaaDoor.N
open Go.Ab
set_option maxHeartbeats 4000000
set_option maxHeartbeats 4000000
set_option maxRecDepth 100000
set_option linter.unusedSimpArgs false
set_option linter.unusedVariables false
theorem firstQ_neg (f : Nat → Bool) : ∀ m i, firstQ f m i = -1 → ∀ k, i ≤ k → k < i + m → f k = false
  | 0, i, _, k, h1, h2 => by omega
  | m + 1, i, h, k, h1, h2 => by
    simp only [firstQ] at h
    by_cases hf : f i = true
    · rw [if_pos hf] at h; omega
    · rw [if_neg hf] at h
      by_cases hk : k = i
      · rw [hk]; simpa using hf
      · exact firstQ_neg f m (i + 1) h k (by omega) (by omega)
theorem seek_at {cs : List Col} {nm : List UInt8} {j : Nat} (hj : j < cs.length) (hn : (cs.getD j Col.none).name = nm) (hd : ∀ i, i < cs.length → (cs.getD i Col.none).name = nm → i = j) : seekK cs nm = (j : Int) := by
  rcases seekK_spec cs nm with h | ⟨i, h1, h2, h3, _⟩
  · have := firstQ_neg (fun i => decide ((cs.getD i Col.none).name = nm)) cs.length 0 h j (Nat.zero_le _) (by omega)
    simp only [decide_eq_false_iff_not] at this
    exact absurd hn this
  · rw [h1, hd i h2 h3]
def letter (j : Nat) : List UInt8 := [UInt8.ofNat (97 + j)]
theorem letter_inj : ∀ i, i < 4 → ∀ j, j < 4 → letter i = letter j → i = j := by decide
theorem letter_name : ∀ i, i < 4 → IsName (letter i) := by decide
structure LC (cs : List Col) : Prop where
  pos : 1 ≤ cs.length
  four : cs.length ≤ 4
  col : ∀ j, j < cs.length → (cs.getD j Col.none).name = letter j ∧ (cs.getD j Col.none).w = .nilsl ∧ (cs.getD j Col.none).ws = [] ∧ -1000000 ≤ (cs.getD j Col.none).lo ∧ (cs.getD j Col.none).lo ≤ (cs.getD j Col.none).hi ∧ (cs.getD j Col.none).hi ≤ 1000000
section
variable {cs : List Col}
theorem LC.seek (h : LC cs) {j : Nat} (hj : j < cs.length) : seekK cs (cs.getD j Col.none).name = (j : Int) :=
  seek_at hj rfl fun i hi e => letter_inj i (by have := h.four; omega) j (by have := h.four; omega) (by rw [← (h.col i hi).1, ← (h.col j hj).1]; exact e)
theorem LC.colN (h : LC cs) {j : Nat} (hj : j < cs.length) : YtcjapamldllleaaDoor.colN cs (cs.getD j Col.none).name = cs.getD j Col.none := by
  unfold YtcjapamldllleaaDoor.colN
  rw [h.seek hj, if_pos (by omega), Int.toNat_natCast]
theorem mem_getD {cs : List Col} {c : Col} (h : c ∈ cs) : ∃ j, j < cs.length ∧ cs.getD j Col.none = c := by
  obtain ⟨j, hj, e⟩ := List.mem_iff_getElem.1 h
  exact ⟨j, hj, by simp [List.getD, hj, e]⟩
theorem LC.ok (h : LC cs) : OkC cs := fun c hc => by
  obtain ⟨j, hj, rfl⟩ := mem_getD hc
  obtain ⟨_, h1, h2, _⟩ := h.col j hj
  exact .inl ⟨h1, h2⟩
theorem LC.short (h : LC cs) : ∀ i, i < cs.length → Short (cs.getD i Col.none) := fun i hi => by
  obtain ⟨h0, h1, h2, _⟩ := h.col i hi
  unfold Short
  rw [h0, h2]
  exact ⟨by simp [letter], by simp, fun k hk => by simp at hk⟩
theorem LC.proper (h : LC cs) : Proper cs := fun i hi => by
  obtain ⟨h0, h1, h2, h3, h4, h5⟩ := h.col i hi
  have := h.four
  refine ⟨by rw [h0]; exact letter_name i (by omega), ?_⟩
  unfold colE
  rw [if_pos (show (cs.getD i Col.none).ws.length = 0 by rw [h2]; rfl), if_neg (by omega)]
theorem LC.tame (h : LC cs) : Tame cs := ⟨bounds_of h.proper h.short, fun nm => by
  unfold YtcjapamldllleaaDoor.colN
  rcases seekK_spec cs nm with e | ⟨j, e, hj, _⟩
  · rw [e, if_neg (by omega)]; simp [Col.none]
  · rw [e, if_pos (by omega), Int.toNat_natCast, (h.col j hj).2.2.1]; simp⟩
theorem fits_row {cs : List Col} {xs : List Int} (h : Fits cs xs) : Row cs xs := fun nm hs => by
  obtain ⟨j, k1, k2, k3⟩ := colN_at hs
  unfold cellX
  rw [k1, k3, Int.toNat_natCast]
  exact h.2 j k2
theorem Sgl.wf (h : LC cs) {i : Nat} {e : Ex} (s : Sgl cs i e) : i < cs.length → WF cs e ∧ e.kind = 0 := by
  induction s with
  | first => intro hi; exact ⟨by unfold WF; rw [h.seek hi]; omega, rfl⟩
  | neg _ ih => intro hi; obtain ⟨a, b⟩ := ih hi; exact ⟨⟨a, .inl rfl, by rw [b]; rfl⟩, rfl⟩
  | next op _ h1 h2 ih =>
    intro hi
    obtain ⟨a, b⟩ := ih (by omega)
    have ho : op = 4 ∨ op = 5 ∨ op = 6 := by omega
    refine ⟨⟨a, by unfold WF; rw [h.seek hi]; omega, ⟨by omega, by omega, by omega, by omega⟩, ?_⟩, ?_⟩
    · rw [b]; rcases ho with rfl | rfl | rfl <;> rfl
    · rcases ho with rfl | rfl | rfl <;> rfl
  | num op n _ h1 h2 h3 h4 ih =>
    intro hi
    obtain ⟨a, b⟩ := ih hi
    have ho : op = 4 ∨ op = 5 ∨ op = 6 := by omega
    refine ⟨⟨a, ⟨h3, by omega⟩, ⟨by omega, by omega, by omega, by omega⟩, ?_⟩, ?_⟩
    · rw [b]; rcases ho with rfl | rfl | rfl <;> rfl
    · rcases ho with rfl | rfl | rfl <;> rfl
theorem min_of (a b : Int) : minI a b = a ∨ minI a b = b := by unfold minI; split <;> simp
theorem max_of (a b : Int) : maxI a b = a ∨ maxI a b = b := by unfold maxI; split <;> simp
def pk (s : Bool) (p : Iv) : Int := if s then p.2 else p.1
theorem op_ends {op : Int} (h1 : 4 ≤ op) (h2 : op ≤ 6) (p q : Iv) : (∃ s t, (opI op p q (0, 0)).1 = opV op [pk s p, pk t q]) ∧ ∃ s t, (opI op p q (0, 0)).2 = opV op [pk s p, pk t q] := by
  have ho : op = 4 ∨ op = 5 ∨ op = 6 := by omega
  rcases ho with rfl | rfl | rfl
  · exact ⟨⟨false, false, rfl⟩, true, true, rfl⟩
  · exact ⟨⟨false, true, rfl⟩, true, false, rfl⟩
  · constructor
    · change ∃ s t, minI (minI (minI (timesI p.1 q.1) (timesI p.1 q.2)) (timesI p.2 q.1)) (timesI p.2 q.2) = timesI (pk s p) (pk t q)
      rcases min_of (minI (minI (timesI p.1 q.1) (timesI p.1 q.2)) (timesI p.2 q.1)) (timesI p.2 q.2) with h | h
      · rcases min_of (minI (timesI p.1 q.1) (timesI p.1 q.2)) (timesI p.2 q.1) with g | g
        · rcases min_of (timesI p.1 q.1) (timesI p.1 q.2) with k | k
          · exact ⟨false, false, by rw [h, g, k]; rfl⟩
          · exact ⟨false, true, by rw [h, g, k]; rfl⟩
        · exact ⟨true, false, by rw [h, g]; rfl⟩
      · exact ⟨true, true, by rw [h]; rfl⟩
    · change ∃ s t, maxI (maxI (maxI (timesI p.1 q.1) (timesI p.1 q.2)) (timesI p.2 q.1)) (timesI p.2 q.2) = timesI (pk s p) (pk t q)
      rcases max_of (maxI (maxI (timesI p.1 q.1) (timesI p.1 q.2)) (timesI p.2 q.1)) (timesI p.2 q.2) with h | h
      · rcases max_of (maxI (timesI p.1 q.1) (timesI p.1 q.2)) (timesI p.2 q.1) with g | g
        · rcases max_of (timesI p.1 q.1) (timesI p.1 q.2) with k | k
          · exact ⟨false, false, by rw [h, g, k]; rfl⟩
          · exact ⟨false, true, by rw [h, g, k]; rfl⟩
        · exact ⟨true, false, by rw [h, g]; rfl⟩
      · exact ⟨true, true, by rw [h]; rfl⟩
def Agree (cs : List Col) (xs : List Int) (c : Nat → Bool) (m : Nat) : Prop := ∀ j, j < m → xs.getD j 0 = if c j then (cs.getD j Col.none).hi else (cs.getD j Col.none).lo
theorem Sgl.ends (h : LC cs) {i : Nat} {e : Ex} (s : Sgl cs i e) : i < cs.length → ∀ b : Bool, ∃ c : Nat → Bool, ∀ xs, Agree cs xs c (i + 1) → e.val cs xs = pk b (e.spn cs) := by
  have hcol : ∀ j, j < cs.length → ∀ (b : Bool) xs, xs.getD j 0 = (if b then (cs.getD j Col.none).hi else (cs.getD j Col.none).lo) → (Ex.col (cs.getD j Col.none).name).val cs xs = pk b ((Ex.col (cs.getD j Col.none).name).spn cs) := fun j hj b xs hx => by
    change cellX cs xs _ = pk b (colI cs _)
    unfold cellX colI
    rw [h.seek hj, h.colN hj, Int.toNat_natCast, hx]; rfl
  induction s with
  | first => intro hi b; exact ⟨fun _ => b, fun xs hx => hcol 0 hi b xs (hx 0 (by omega))⟩
  | @neg i e _ ih =>
    intro hi b
    obtain ⟨c, hc⟩ := ih hi (!b)
    refine ⟨c, fun xs hx => ?_⟩
    change wr (0 - e.val cs xs) = pk b (wr (0 - (e.spn cs).2), wr (0 - (e.spn cs).1))
    rw [hc xs hx]
    cases b <;> rfl
  | @next i e op _ h1 h2 ih =>
    intro hi b
    obtain ⟨s, t, hst⟩ : ∃ s t, pk b (opI op (e.spn cs) (colI cs (cs.getD (i + 1) Col.none).name) (0, 0)) = opV op [pk s (e.spn cs), pk t (colI cs (cs.getD (i + 1) Col.none).name)] := by
      obtain ⟨a, d⟩ := op_ends h1 h2 (e.spn cs) (colI cs (cs.getD (i + 1) Col.none).name)
      cases b
      · exact a
      · exact d
    obtain ⟨c, hc⟩ := ih (by omega) s
    refine ⟨fun j => if j = i + 1 then t else c j, fun xs hx => ?_⟩
    have e1 := hc xs fun j hj => by
      have := hx j (by omega)
      simp only [show ¬ j = i + 1 by omega, if_false] at this
      exact this
    have e2 := hcol (i + 1) hi t xs (by have := hx (i + 1) (by omega); simpa using this)
    change opV op [e.val cs xs, (Ex.col (cs.getD (i + 1) Col.none).name).val cs xs] = _
    rw [e1, e2]
    exact hst.symm
  | @num i e op n _ h1 h2 h3 h4 ih =>
    intro hi b
    obtain ⟨s, t, hst⟩ : ∃ s t, pk b (opI op (e.spn cs) (dup n) (0, 0)) = opV op [pk s (e.spn cs), pk t (dup n)] := by
      obtain ⟨a, d⟩ := op_ends h1 h2 (e.spn cs) (dup n)
      cases b
      · exact a
      · exact d
    obtain ⟨c, hc⟩ := ih hi s
    refine ⟨c, fun xs hx => ?_⟩
    change opV op [e.val cs xs, n] = _
    rw [hc xs hx]
    have : pk t (dup n) = n := by cases t <;> rfl
    rw [this] at hst
    exact hst.symm
def rowK (cs : List Col) (k : Nat) : List Int := (List.range cs.length).map fun j => if k / 2 ^ j % 2 = 1 then (cs.getD j Col.none).hi else (cs.getD j Col.none).lo
theorem rowK_at {k j : Nat} (hj : j < cs.length) : (rowK cs k).getD j 0 = if k / 2 ^ j % 2 = 1 then (cs.getD j Col.none).hi else (cs.getD j Col.none).lo := by
  unfold rowK
  rw [List.getD, List.getElem?_map, List.getElem?_range hj]; rfl
theorem rowK_fits (h : LC cs) (k : Nat) : Fits cs (rowK cs k) := by
  refine ⟨by simp [rowK], fun i hi => ?_⟩
  obtain ⟨_, _, _, h3, h4, h5⟩ := h.col i hi
  rw [rowK_at hi]
  split <;> omega
theorem bits_of (n : Nat) (hn : n ≤ 4) (c : Nat → Bool) : ∃ k, k < 2 ^ n ∧ ∀ j, j < n → (c j = true ↔ k / 2 ^ j % 2 = 1) := by
  induction n with
  | zero => exact ⟨0, by simp, fun j hj => by omega⟩
  | succ n ih =>
    obtain ⟨k, hk, hb⟩ := ih (by omega)
    have hp : 2 ^ (n + 1) = 2 ^ n + 2 ^ n := by rw [Nat.pow_succ]; omega
    by_cases hc : c n = true
    · refine ⟨k + 2 ^ n, by omega, fun j hj => ?_⟩
      by_cases hjn : j = n
      · subst hjn
        rw [Nat.add_div_right _ (Nat.two_pow_pos j), Nat.div_eq_of_lt hk]
        simp [hc]
      · rw [hb j (by omega)]
        have e : 2 ^ n = 2 ^ j * (2 * 2 ^ (n - j - 1)) := by
          rw [← Nat.mul_assoc, ← Nat.pow_succ, ← Nat.pow_add]; congr 1; omega
        rw [e, Nat.add_mul_div_left _ _ (Nat.two_pow_pos j), Nat.add_mul_mod_self_left]
    · refine ⟨k, by omega, fun j hj => ?_⟩
      by_cases hjn : j = n
      · subst hjn
        rw [Nat.div_eq_of_lt hk]
        simp [hc]
      · exact hb j (by omega)
theorem ends_are (h : LC cs) {e : Ex} (s : Sgl cs (cs.length - 1) e) (b : Bool) : ∃ k, k < 2 ^ cs.length ∧ e.val cs (rowK cs k) = pk b (e.spn cs) := by
  have hp := h.pos
  obtain ⟨c, hc⟩ := s.ends h (by omega) b
  obtain ⟨k, hk, hb⟩ := bits_of cs.length h.four c
  refine ⟨k, hk, hc _ fun j hj => ?_⟩
  have hj : j < cs.length := by omega
  rw [rowK_at hj]
  have := hb j hj
  by_cases hcj : c j = true
  · rw [if_pos hcj, if_pos (this.1 hcj)]
  · rw [if_neg hcj, if_neg (fun e => hcj (this.2 e))]
theorem val_within (h : LC cs) {e : Ex} (s : Sgl cs (cs.length - 1) e) (k : Nat) : (e.spn cs).1 ≤ e.val cs (rowK cs k) ∧ e.val cs (rowK cs k) ≤ (e.spn cs).2 :=
  Ex.within h.tame (fits_row (rowK_fits h k)) e (s.wf h (by have := h.pos; omega)).1
end
end Go.Proofs.YtcjapamldllleaaDoor.N
namespace Go.Proofs.YtcjapamldllleaaDoor.N
open Go.Ab
set_option maxHeartbeats 4000000
set_option maxHeartbeats 4000000
set_option maxRecDepth 100000
set_option linter.unusedSimpArgs false
set_option linter.unusedVariables false
theorem at6 : env.P.funcs[6]? = some Tryd.f6 := by kernel_rfl
theorem vBin_shl (us : Option TypeDesc) (cc : Bool) (n : Nat) (h : n ≤ 4) : vBinT us cc .shl (.int .i64 1) (.int .i64 n) = some (.int .i64 ((2 ^ n : Nat) : Int)) := by
  have e : vBin .shl (.int .i64 1) (.int .i64 n) = some (.int .i64 ((2 ^ n : Nat) : Int)) := by
    match n, h with
    | 0, _ => rfl
    | 1, _ => rfl
    | 2, _ => rfl
    | 3, _ => rfl
    | 4, _ => rfl
  unfold vBinT
  rw [e]
theorem vBin_shr (us : Option TypeDesc) (cc : Bool) (k i : Nat) (h : i ≤ 4) : vBinT us cc .shr (.int .i64 k) (.int .i64 i) = some (.int .i64 ((k / 2 ^ i : Nat) : Int)) := by
  have e : vBin .shr (.int .i64 k) (.int .i64 i) = some (.int .i64 ((k / 2 ^ i : Nat) : Int)) := by
    have hb : IntKind.i64.bits = 64 := rfl
    simp only [vBin, vShift, hb]
    rw [if_neg (by omega), Int.toNat_natCast, Nat.min_eq_left (by omega), Int.fdiv_eq_ediv_of_nonneg _ (Int.le_of_lt (Int.pow_pos (by decide)))]
    congr 2
  unfold vBinT
  rw [e]
theorem tmod2 (m : Nat) : Int.tmod (m : Int) 2 = ((m % 2 : Nat) : Int) := by
  rw [Int.tmod_eq_emod_of_nonneg (by omega)]; omega
theorem build39 {v : V} {xs : List Int} (h : IsI v xs) : buildO env 39 [(0, v)] = some (.agg [v, .int .i64 0]) := by
  rcases h with ⟨rfl, rfl⟩ | rfl | rfl <;> kernel_rfl
theorem build46 (s : List UInt8) (a b : Int) : buildO env 46 [(0, .str s), (1, .int .i64 a), (2, .int .i64 b)] = some (.agg [.str s, .int .i64 a, .int .i64 b, .nilsl]) := by kernel_rfl
theorem row44 (a b c d : List UInt8) : rowO env 44 4 [(0, .str a), (1, .str b), (2, .str c), (3, .str d)] = some (.row [.str a, .str b, .str c, .str d] 4 .full) := by kernel_rfl
theorem idx_letters {j : Nat} (h : j < 4) : ∃ r, vIndexAddr 1 (.row [.str [97], .str [98], .str [99], .str [100]] 4 .full) (.int .i64 j) = some (.rptr (.str (letter j) :: r)) := by
  match j, h with
  | 0, _ => exact ⟨_, rfl⟩
  | 1, _ => exact ⟨_, rfl⟩
  | 2, _ => exact ⟨_, rfl⟩
  | 3, _ => exact ⟨_, rfl⟩
theorem isCell_I {v : V} {xs : List Int} (h : IsI v xs) : v.isCell = true := by rcases h with ⟨rfl, _⟩ | rfl | rfl <;> rfl
theorem sc_take (ag : Array Operand) (ts : Array TypeId) : scOp env (.call ⟨.value (.func 23), ag, ts⟩) = true := rfl
theorem flatC_app (a b : List Col) : flatC (a ++ b) = flatC a ++ flatC b := by simp [flatC]
def Let (cs : List Col) : Prop := ∀ j, j < cs.length → (cs.getD j Col.none).name = letter j ∧ (cs.getD j Col.none).w = .nilsl ∧ (cs.getD j Col.none).ws = [] ∧ -1000000 ≤ (cs.getD j Col.none).lo ∧ (cs.getD j Col.none).lo ≤ (cs.getD j Col.none).hi ∧ (cs.getD j Col.none).hi ≤ 1000000
theorem Let.add {cs : List Col} (h : Let cs) {lo hi : Int} (h1 : -1000000 ≤ lo) (h2 : lo ≤ hi) (h3 : hi ≤ 1000000) : Let (cs ++ [⟨letter cs.length, lo, hi, .nilsl, []⟩]) := fun j hj => by
  rw [List.length_append, List.length_singleton] at hj
  by_cases e : j < cs.length
  · have : (cs ++ [(⟨letter cs.length, lo, hi, .nilsl, []⟩ : Col)]).getD j Col.none = cs.getD j Col.none := by simp only [List.getD]; rw [List.getElem?_append_left e]
    rw [this]; exact h j e
  · have : j = cs.length := by omega
    subst this
    have : (cs ++ [(⟨letter cs.length, lo, hi, .nilsl, []⟩ : Col)]).getD cs.length Col.none = ⟨letter cs.length, lo, hi, .nilsl, []⟩ := by simp [List.getD]
    rw [this]
    exact ⟨rfl, rfl, rfl, h1, h2, h3⟩
abbrev GC (base : Nat) (ts : List Nat) (v : V) (cs : List Col) : Prop := GrowV base ts 4 v cs.length (flatC cs)
abbrev GI (base : Nat) (ts : List Nat) (v : V) (xs : List Int) : Prop := GrowV base ts 1 v xs.length (xs.map (V.int .i64))
theorem GC.push {base : Nat} {hp : List AObj} {ts : List Nat} {v : V} {cs : List Col} (g : GC base ts v cs) (hb : base ≤ ts.length) (c : Col) (hc : c.w.isCell = true) (q : RCap) (hl : cs.length ≤ 4000) : ∃ v' ts', appO env false ⟨hp, ts⟩ 23 23 v (.row [.str c.name, .int .i64 c.lo, .int .i64 c.hi, c.w] 1 q) = some (v', ⟨hp, ts'⟩) ∧ GC base ts' v' (cs ++ [c]) ∧ Ext base ts ts' := by
  have hlim : lim = 2 ^ 40 := rfl
  have := GrowV.push (E := env) (hp := hp) (q := q) (new := [.str c.name, .int .i64 c.lo, .int .i64 c.hi, c.w]) eC ⟨46, eC.slice⟩ g hb rfl (by simp only [List.all_cons, List.all_nil, hc]; rfl) ⟨by rw [hlim]; omega, by rw [hlim]; omega⟩
  obtain ⟨v', ts', h1, h2, h3⟩ := this
  refine ⟨v', ts', h1, ?_, h3⟩
  unfold GC
  rw [List.length_append, flatC_app]; exact h2
theorem GI.push {base : Nat} {hp : List AObj} {ts : List Nat} {v : V} {xs : List Int} (g : GI base ts v xs) (hb : base ≤ ts.length) (x : Int) (q : RCap) (hl : xs.length ≤ 4000) : ∃ v' ts', appO env false ⟨hp, ts⟩ 24 24 v (.row [.int .i64 x] 1 q) = some (v', ⟨hp, ts'⟩) ∧ GI base ts' v' (xs ++ [x]) ∧ Ext base ts ts' := by
  have hlim : lim = 2 ^ 40 := rfl
  have := GrowV.push (E := env) (hp := hp) (q := q) (new := [.int .i64 x]) eI ⟨3, eI.slice⟩ g hb rfl (by simp [V.isCell]) ⟨by rw [hlim]; omega, by rw [hlim]; omega⟩
  obtain ⟨v', ts', h1, h2, h3⟩ := this
  refine ⟨v', ts', h1, ?_, h3⟩
  unfold GI
  rw [List.length_append, List.map_append]; exact h2
def hitB (cs : List Col) (e : Ex) (x : Int) (k : Nat) : Bool := (List.range k).any fun k' => decide (e.val cs (rowK cs k') = x)
theorem hitB_succ (cs : List Col) (e : Ex) (x : Int) (k : Nat) : hitB cs e x (k + 1) = (hitB cs e x k || decide (e.val cs (rowK cs k) = x)) := by
  simp [hitB, List.range_succ, List.any_append]
theorem hitB_all {cs : List Col} {e : Ex} {x : Int} {n : Nat} (h : ∃ k, k < n ∧ e.val cs (rowK cs k) = x) : hitB cs e x n = true := by
  obtain ⟨k, hk, h⟩ := h
  unfold hitB
  rw [List.any_eq_true]
  exact ⟨k, List.mem_range.2 hk, by simp [h]⟩
theorem rowK_take {cs : List Col} {k i : Nat} (h : i < cs.length) : (rowK cs k).take (i + 1) = (rowK cs k).take i ++ [if k / 2 ^ i % 2 = 1 then (cs.getD i Col.none).hi else (cs.getD i Col.none).lo] := by
  have hl : i < (rowK cs k).length := by simp [rowK, h]
  rw [List.take_succ_eq_append_getElem hl]
  congr 2
  have := rowK_at (k := k) h
  rw [List.getD, List.getElem?_eq_getElem hl] at this
  exact this
theorem ends_found {xv : V} {xs : List Int} (hx : IsI xv xs) (hin : ∀ x ∈ xs, In64 x) (hxl : xs.length < 2 ^ 63) {yv : V} {ys : List Int} (hy : IsI yv ys) (hin2 : ∀ y ∈ ys, In64 y) (hyl : ys.length < 2 ^ 63) : Go.Ab.Found env 6 [xv, yv] := by
  refine found_of_wp at6 rfl (by simp [Tryd.f6]) (by simp [Tryd.f6]) (G_start ?_)
  have hK := known_call
  have b39 := build39 hx
  have b39y := build39 hy
  have cx := isCell_I hx
  have cy := isCell_I hy
  obtain ⟨k0, a0, hT0, ha0, p1, p2, _⟩ := take_call [tk xv 0] 0 xv xs hx hin hxl (by simp) 0 (Nat.zero_le _) 4 (by simp [In64])
  have p2 := p2 (by decide)
  have hT0 : ∀ ts, callFn env (ev env) 23 [.ptr 0 0, .int .i64 4] ⟨[.cells [xv, .int .i64 0] 39], ts⟩ = some (.int .i64 k0, ⟨[tk xv a0], ts⟩) := hT0
  obtain ⟨n, hn⟩ : ∃ n : Nat, k0 = (n : Int) := ⟨k0.toNat, by omega⟩
  subst hn
  have e1 : IntKind.i64.wrap (1 + (n : Int)) = ((n + 1 : Nat) : Int) := by rw [wrap_i64 (by omega) (by omega)]; omega
  simp -implicitDefEqProofs only [Tryd.f6,Wa,Wb,Wc,Wd,We,Wf,Wg,Wh,Wi,Wj,Wk,Wl,Wm,Wn,Zo,Zp,evalT,Nat.reduceLT,Nat.reduceEqDiff,if_true,if_false,reduceIte,Ys,ofVal,ofCell,argT,resT,setT,Y0,Int.reduceEq,Int.reduceLT,Int.reduceLE,Int.reduceNeg,mb,Nat.reduceBEq,tys,stb,Va,storeList,Nat.reduceAdd,Nat.reduceLeDiff,empty_mk,hK,b39,cx,hT0,e1]
  refine loop_rule (fun m T D σ => D = [] ∧ T 0 = xv ∧ T 1 = yv ∧ T 5 = .bool true ∧ T 6 = .ptr 0 0 ∧ T 8 = .int .i64 ((n + 1 : Nat) : Int) ∧ ∃ (a : Nat) (ts : List Nat) (cs : List Col) (v : V), σ = ⟨[tk xv a], ts⟩ ∧ T 7 = v ∧ GC 0 ts v cs ∧ Let cs ∧ T 9 = .int .i64 cs.length ∧ a ≤ xs.length ∧ cs.length ≤ n + 1 ∧ m = n + 1 - cs.length) ?_ (n + 1 - 0) _ _ _
    ⟨rfl, rfl, rfl, rfl, rfl, rfl, a0, [], [], .nilsl, rfl, rfl, .nil, fun j hj => by simp at hj, rfl, ha0, by simp, rfl⟩
  rintro m T D σ ⟨rfl, t0, t1, t5, t6, t8, a, ts, cs, v, rfl, t7, hg, hL, t9, ha, hcn, rfl⟩
  refine G_start ?_
  by_cases hlt : cs.length < n + 1
  · have c1 : (cs.length : Int) < ((n + 1 : Nat) : Int) := by omega
    have e2 : IntKind.i64.wrap ((cs.length : Int) + 1) = ((cs.length + 1 : Nat) : Int) := by rw [wrap_i64 (by omega) (by omega)]; omega
    obtain ⟨k1, a1, hT1, ha1, b1, b2, _⟩ := take_call [tk xv 0] 0 xv xs hx hin hxl (by simp) a ha 2000001 (by simp [In64])
    have b2 := b2 (by decide)
    have hT1 : ∀ ts, callFn env (ev env) 23 [.ptr 0 0, .int .i64 2000001] ⟨[tk xv a], ts⟩ = some (.int .i64 k1, ⟨[tk xv a1], ts⟩) := hT1
    have e3 : IntKind.i64.wrap (k1 - 1000000) = k1 - 1000000 := wrap_i64 (by omega) (by omega)
    have e4 : IntKind.i64.wrap (1000000 - (k1 - 1000000)) = 2000000 - k1 := by rw [wrap_i64 (by omega) (by omega)]; omega
    have e5 : IntKind.i64.wrap (2000000 - k1 + 1) = 2000001 - k1 := by rw [wrap_i64 (by omega) (by omega)]; omega
    obtain ⟨k2, a2, hT2, ha2, b3, b4, _⟩ := take_call [tk xv 0] 0 xv xs hx hin hxl (by simp) a1 ha1 (2000001 - k1) (by unfold In64; omega)
    have b4 := b4 (by omega)
    have hT2 : ∀ ts, callFn env (ev env) 23 [.ptr 0 0, .int .i64 (2000001 - k1)] ⟨[tk xv a1], ts⟩ = some (.int .i64 k2, ⟨[tk xv a2], ts⟩) := hT2
    have e6 : IntKind.i64.wrap (k1 - 1000000 + k2) = k1 - 1000000 + k2 := wrap_i64 (by omega) (by omega)
    obtain ⟨r, hix⟩ := idx_letters (show cs.length < 4 by omega)
    obtain ⟨v', ts', hA, hg', _⟩ := GC.push (hp := [tk xv a2]) hg (Nat.zero_le _) ⟨letter cs.length, k1 - 1000000, k1 - 1000000 + k2, .nilsl, []⟩ rfl .full (by omega)
    have hL' := hL.add (lo := k1 - 1000000) (hi := k1 - 1000000 + k2) (by omega) (by omega) (by omega)
    have b46 := build46 (letter cs.length) (k1 - 1000000) (k1 - 1000000 + k2)
    simp only at hA
    simp -implicitDefEqProofs only [Wa,Wb,Wc,Wd,We,Wf,Wg,Wh,Wi,Wj,Wk,Wl,Wm,Wn,Zo,Zp,evalT,Nat.reduceLT,Nat.reduceEqDiff,if_true,if_false,reduceIte,Ys,ofVal,ofCell,argT,resT,setT,Y0,Int.reduceEq,Int.reduceLT,Int.reduceLE,Int.reduceNeg,mb,Nat.reduceBEq,tys,stb,Va,storeList,Nat.reduceAdd,Nat.reduceLeDiff,t0,t1,t5,t6,t7,t8,t9,c1,hT1,e3]
    refine G_stab rfl (fun _ => True) trivial (by kernel_rfl) ?_
    simp -implicitDefEqProofs only [Wa,Wb,Wc,Wd,We,Wf,Wg,Wh,Wi,Wj,Wk,Wl,Wm,Wn,Zo,Zp,evalT,Nat.reduceLT,Nat.reduceEqDiff,if_true,if_false,reduceIte,Ys,ofVal,ofCell,argT,resT,setT,Y0,Int.reduceEq,Int.reduceLT,Int.reduceLE,Int.reduceNeg,mb,Nat.reduceBEq,tys,stb,Va,storeList,Nat.reduceAdd,Nat.reduceLeDiff,t0,t1,t5,t6,t7,t8,t9,c1,hT1,e2,e3,e4,e5,e6,hT2,-Ys,hix,load_hd,opT_rowO,row44,rowC1,b46,hA,sc_take,sc_load,sc_move,sc_indexAddr,sc_fieldAddr,rd_fieldAddr,sc_build',rd_build',rd_bs,sc_binOp,rd_binOp,sc_assign,rd_assign,rd_load,rd_move,rd_indexAddr,rd_call,aread_load]
    exact ⟨fun _ => trivial, fun _ => trivial, fun _ => trivial, fun _ => trivial, n + 1 - (cs.length + 1), by omega, a2, ts', _, v', rfl, rfl, hg', hL', by simp, ha2, by simp; omega, by simp⟩
  · have hcl : cs.length = n + 1 := by omega
    have c1 : ¬ (cs.length : Int) < ((n + 1 : Nat) : Int) := by omega
    have hLC : LC cs := ⟨by omega, by omega, hL⟩
    obtain ⟨q, rfl⟩ := hg.isrow (by omega)
    obtain ⟨w, σ', hS, e, a', ts2, rfl, hgw, _, _, hSg, hel⟩ := single_call [tk xv a, tk yv 0] ts 1 yv ys hy hin2 hyl (by simp) 0 (Nat.zero_le _) cs q (by omega) (by omega)
    have hS : callFn env (ev env) 24 [.ptr 1 0, .row (flatC cs) cs.length q] ⟨[tk xv a, .cells [yv, .int .i64 0] 39], ts⟩ = some (w, ⟨[tk xv a, tk yv a'], ts2⟩) := hS
    have hF : Fit w e.post (.row (flatC cs) cs.length q) cs := ⟨RN.grow hgw, by omega, RC.row hLC.ok q, hLC.ok, by omega, hLC.short⟩
    obtain ⟨hwf, hkd⟩ := hSg.wf hLC (by omega)
    have hOf := of_tree hF hLC.proper hwf (by omega) hkd
    generalize hlo : (e.spn cs).1 = lo at hOf
    generalize hhi : (e.spn cs).2 = hi at hOf
    simp -implicitDefEqProofs only [Wa,Wb,Wc,Wd,We,Wf,Wg,Wh,Wi,Wj,Wk,Wl,Wm,Wn,Zo,Zp,evalT,Nat.reduceLT,Nat.reduceEqDiff,if_true,if_false,reduceIte,Ys,ofVal,ofCell,argT,resT,setT,Y0,Int.reduceEq,Int.reduceLT,Int.reduceLE,Int.reduceNeg,mb,Nat.reduceBEq,tys,stb,Va,storeList,Nat.reduceAdd,Nat.reduceLeDiff,t0,t1,t5,t6,t7,t8,t9,c1,b39y,cy,hS,hOf]
    have hlow := ends_are hLC hSg false
    have hhigh := ends_are hLC hSg true
    have hwi := val_within hLC hSg
    simp only [pk, if_true, Bool.false_eq_true, if_false] at hlow hhigh
    rw [hlo] at hlow hwi
    rw [hhi] at hhigh hwi
    clear hT0 hK hS hlo hhi
    refine loop_rule (fun m T D σ => D = [] ∧ T 5 = .bool true ∧ T 7 = .row (flatC cs) cs.length q ∧ T 11 = w ∧ T 12 = .int .i64 lo ∧ T 13 = .int .i64 hi ∧ ∃ (L : List AObj) (ts : List Nat) (k : Nat), σ = ⟨L, ts⟩ ∧ T 14 = .bool (hitB cs e lo k) ∧ T 15 = .bool (hitB cs e hi k) ∧ T 16 = .int .i64 k ∧ k ≤ 2 ^ cs.length ∧ m = 2 ^ cs.length - k) ?_ (2 ^ cs.length - 0) _ _ _
      ⟨rfl, t5, t7, rfl, rfl, rfl, _, _, 0, rfl, rfl, rfl, rfl, Nat.zero_le _, rfl⟩
    clear t0 t1 t5 t6 t7 t8 t9 T
    rintro m T D σ ⟨rfl, t5, t7, t11, t12, t13, L, ts, k, rfl, t14, t15, t16, hk, rfl⟩
    refine G_start ?_
    have hp16 : 2 ^ cs.length ≤ 2 ^ 4 := Nat.pow_le_pow_right (by decide) (by omega)
    have hsl := fun us cc => vBin_shl us cc cs.length (by omega)
    by_cases hlt : k < 2 ^ cs.length
    · have c2 : (k : Int) < ((2 ^ cs.length : Nat) : Int) := by omega
      have e2 : IntKind.i64.wrap ((k : Int) + 1) = ((k + 1 : Nat) : Int) := by rw [wrap_i64 (by omega) (by omega)]; omega
      simp -implicitDefEqProofs only [Wa,Wb,Wc,Wd,We,Wf,Wg,Wh,Wi,Wj,Wk,Wl,Wm,Wn,Zo,Zp,evalT,Nat.reduceLT,Nat.reduceEqDiff,if_true,if_false,reduceIte,Ys,ofVal,ofCell,argT,resT,setT,Y0,Int.reduceEq,Int.reduceLT,Int.reduceLE,Int.reduceNeg,mb,Nat.reduceBEq,tys,stb,Va,storeList,Nat.reduceAdd,Nat.reduceLeDiff,t5,t7,t11,t12,t13,t14,t15,t16,hsl,c2]
      refine loop_rule (fun m T D σ => D = [] ∧ T 5 = .bool true ∧ T 7 = .row (flatC cs) cs.length q ∧ T 11 = w ∧ T 12 = .int .i64 lo ∧ T 13 = .int .i64 hi ∧ T 14 = .bool (hitB cs e lo k) ∧ T 15 = .bool (hitB cs e hi k) ∧ T 16 = .int .i64 k ∧ ∃ (ts : List Nat) (i : Nat) (r : V), σ = ⟨L, ts⟩ ∧ T 17 = r ∧ GI 0 ts r ((rowK cs k).take i) ∧ T 18 = .int .i64 i ∧ i ≤ cs.length ∧ m = cs.length - i) ?_ (cs.length - 0) _ _ _
        ⟨rfl, t5, t7, t11, t12, t13, t14, t15, t16, ts, 0, .nilsl, rfl, rfl, .nil, rfl, Nat.zero_le _, rfl⟩
      clear t5 t7 t11 t12 t13 t14 t15 t16 T ts
      rintro m T D σ ⟨rfl, t5, t7, t11, t12, t13, t14, t15, t16, ts, i, r, rfl, t17, hg, t18, hi', rfl⟩
      refine G_start ?_
      have hrl : ((rowK cs k).take i).length = i := by simp [rowK]; omega
      by_cases hit : i < cs.length
      · have c3 : (i : Int) < (cs.length : Int) := by omega
        have e3 : IntKind.i64.wrap ((i : Int) + 1) = ((i + 1 : Nat) : Int) := by rw [wrap_i64 (by omega) (by omega)]; omega
        obtain ⟨rr, hix⟩ := idx_C' cs q hit
        have hsr := fun us cc => vBin_shr us cc k i (by omega)
        have htm := tmod2 (k / 2 ^ i)
        have hrt := rowK_take (cs := cs) (k := k) hit
        by_cases hb : k / 2 ^ i % 2 = 1
        · have gb : (((k / 2 ^ i % 2 : Nat) : Int) = 1) = True := eq_true (by omega)
          rw [if_pos hb] at hrt
          obtain ⟨r', ts', hA, hg', _⟩ := GI.push (hp := L) hg (Nat.zero_le _) (cs.getD i Col.none).hi .full (by omega)
          have hri := rowI1 (cs.getD i Col.none).hi
          rw [← hrt] at hg'
          simp -implicitDefEqProofs only [Wa,Wb,Wc,Wd,We,Wf,Wg,Wh,Wi,Wj,Wk,Wl,Wm,Wn,Zo,Zp,evalT,Nat.reduceLT,Nat.reduceEqDiff,if_true,if_false,reduceIte,Ys,ofVal,ofCell,argT,resT,setT,Y0,Int.reduceEq,Int.reduceLT,Int.reduceLE,Int.reduceNeg,mb,Nat.reduceBEq,tys,stb,Va,storeList,Nat.reduceAdd,Nat.reduceLeDiff,t5,t7,t11,t12,t13,t14,t15,t16,t17,t18,c3,e3,-Ys,hix,load_hd,hsr,htm,gb,opT_rowO,hri,hA]
          exact ⟨cs.length - (i + 1), by omega, ts', i + 1, r', rfl, rfl, hg', rfl, by omega, rfl⟩
        · have gb : (((k / 2 ^ i % 2 : Nat) : Int) = 1) = False := eq_false (by omega)
          rw [if_neg hb] at hrt
          obtain ⟨r', ts', hA, hg', _⟩ := GI.push (hp := L) hg (Nat.zero_le _) (cs.getD i Col.none).lo .full (by omega)
          have hri := rowI1 (cs.getD i Col.none).lo
          rw [← hrt] at hg'
          simp -implicitDefEqProofs only [Wa,Wb,Wc,Wd,We,Wf,Wg,Wh,Wi,Wj,Wk,Wl,Wm,Wn,Zo,Zp,evalT,Nat.reduceLT,Nat.reduceEqDiff,if_true,if_false,reduceIte,Ys,ofVal,ofCell,argT,resT,setT,Y0,Int.reduceEq,Int.reduceLT,Int.reduceLE,Int.reduceNeg,mb,Nat.reduceBEq,tys,stb,Va,storeList,Nat.reduceAdd,Nat.reduceLeDiff,t5,t7,t11,t12,t13,t14,t15,t16,t17,t18,c3,e3,-Ys,hix,load_hd,hsr,htm,gb,opT_rowO,hri,hA]
          exact ⟨cs.length - (i + 1), by omega, ts', i + 1, r', rfl, rfl, hg', rfl, by omega, rfl⟩
      · have hic : i = cs.length := by omega
        subst hic
        have c3 : ¬ (cs.length : Int) < (cs.length : Int) := by omega
        have hfull : (rowK cs k).take cs.length = rowK cs k := List.take_of_length_le (by simp [rowK])
        rw [hfull] at hg
        have hlen : (rowK cs k).length = cs.length := by simp [rowK]
        obtain ⟨q2, rfl⟩ := hg.isrow (by omega)
        have hfit := rowK_fits hLC k
        have hG : FitI (.row ((rowK cs k).map (V.int .i64)) (rowK cs k).length q2) (rowK cs k) := ⟨RI.row _ q2, by omega, fun x hx => by
          obtain ⟨j, hj, e'⟩ := List.mem_iff_getElem.1 hx
          have h1 := hfit.2 j (by omega)
          obtain ⟨_, _, _, h3, h4, h5⟩ := hL j (by omega)
          have : (rowK cs k).getD j 0 = x := by rw [List.getD, List.getElem?_eq_getElem hj]; exact e'
          unfold In64
          omega⟩
        have hV := value_tree hF hG hLC.proper hfit hwf (by omega) hkd
        obtain ⟨w1, w2⟩ := hwi k
        have gl := hitB_succ cs e lo k
        have gh := hitB_succ cs e hi k
        have g1 : (e.val cs (rowK cs k) < lo) = False := eq_false (by omega)
        have g2 : (e.val cs (rowK cs k) > hi) = False := eq_false (by omega)
        generalize e.val cs (rowK cs k) = x at *
        generalize hitB cs e lo k = bl at *
        generalize hitB cs e hi k = bh at *
        cases bl <;> cases bh
        all_goals
          simp only [Bool.false_or, Bool.true_or] at gl gh
          simp -implicitDefEqProofs only [Wa,Wb,Wc,Wd,We,Wf,Wg,Wh,Wi,Wj,Wk,Wl,Wm,Wn,Zo,Zp,evalT,Nat.reduceLT,Nat.reduceEqDiff,if_true,if_false,reduceIte,Ys,ofVal,ofCell,argT,resT,setT,Y0,Int.reduceEq,Int.reduceLT,Int.reduceLE,Int.reduceNeg,mb,Nat.reduceBEq,tys,stb,Va,storeList,Nat.reduceAdd,Nat.reduceLeDiff,t5,t7,t11,t12,t13,t14,t15,t16,t17,t18,c3,e2,hV,g1,g2]
          exact ⟨2 ^ cs.length - (k + 1), by omega, _, _, k + 1, rfl, by rw [gl], by rw [gh], rfl, by omega, rfl⟩
    · have hke : k = 2 ^ cs.length := by omega
      have c2 : ¬ (k : Int) < ((2 ^ cs.length : Nat) : Int) := by omega
      have hl1 : hitB cs e lo k = true := hitB_all (by rw [hke]; exact hlow)
      have hh1 : hitB cs e hi k = true := hitB_all (by rw [hke]; exact hhigh)
      rw [hl1] at t14
      rw [hh1] at t15
      simp -implicitDefEqProofs only [Wa,Wb,Wc,Wd,We,Wf,Wg,Wh,Wi,Wj,Wk,Wl,Wm,Wn,Zo,Zp,evalT,Nat.reduceLT,Nat.reduceEqDiff,if_true,if_false,reduceIte,Ys,ofVal,ofCell,argT,resT,setT,Y0,Int.reduceEq,Int.reduceLT,Int.reduceLE,Int.reduceNeg,mb,Nat.reduceBEq,tys,stb,Va,storeList,Nat.reduceAdd,Nat.reduceLeDiff,t5,t7,t11,t12,t13,t14,t15,t16,hsl,c2]
      rfl
theorem ends_foundt {u w : V} (h : Tyd Tryd.prog 6 24 [u]) (h2 : Tyd Tryd.prog 6 24 [w]) : Go.Ab.Found env 6 [u, w] := by
  obtain ⟨xs, c1, c2, c3⟩ := tyd_IS (k := 4) h
  obtain ⟨ys, d1, d2, d3⟩ := tyd_IS (k := 4) h2
  exact ends_found c1 c3 c2 d1 d3 d2
end Go.Proofs.YtcjapamldllleaaDoor.N
