/- Proved here: the law, with expressions that are drawn. Conditions: those of each theorem; no statement of the seat is proved in this text. -/
import Derived.Test.YtcjapamldllleaaDoorEnvK
import Derived.Test.YtcjapamldllleaaDoorPtA
namespace Go.Proofs.YtcjapamldllleaaDoor.N
open Go.Ab
set_option maxHeartbeats 4000000
set_option maxHeartbeats 4000000
set_option maxRecDepth 100000
set_option linter.unusedSimpArgs false
set_option linter.unusedVariables false
set_option linter.unusedSectionVars false
theorem mb (f : FuncId) (r : Nat) : env.mutb f r = false := rfl
theorem stb (f : FuncId) (r : Nat) (h : (f == 6 && r == 9 || f == 7 && r == 12 || f == 7 && r == 13 || f == 21 && r == 8 || f == 21 && r == 9 || f == 22 && r == 5 || f == 41 && r == 11 || f == 65 && r == 7) = false) : env.stab f r = false := h
theorem tys : env.P.underlying 3 = some (.int .i64) ∧ env.P.underlying 4 = some .bool ∧ env.P.underlying 9 = some .string ∧ env.P.underlying 44 = some (.slice 9) ∧ env.P.underlying 22 = some (.slice 52) ∧ env.P.underlying 23 = some (.slice 46) ∧ env.P.underlying 24 = some (.slice 3) ∧
    sz env 9 = some 1 ∧ sz env 44 = some 1 ∧ sz env 3 = some 1 ∧ sz env 4 = some 1 ∧ sz env 22 = some 1 ∧ sz env 23 = some 1 ∧ sz env 24 = some 1 ∧ sz env 46 = some 4 ∧ sz env 52 = some 3 ∧ sz env 39 = some 2 ∧
    fldOff env 39 0 = some 0 ∧ fldOff env 39 1 = some 1 ∧ fldOff env 46 0 = some 0 ∧ fldOff env 46 1 = some 1 ∧ fldOff env 46 2 = some 2 ∧ fldOff env 46 3 = some 3 ∧ fldOff env 52 0 = some 0 ∧ fldOff env 52 1 = some 1 ∧ fldOff env 52 2 = some 2 ∧
    (∀ h p, aload env h 9 p = (loadCellsV h 1 p).bind (·[0]?)) ∧ (∀ h p, aload env h 44 p = (loadCellsV h 1 p).bind (·[0]?)) ∧ (∀ h p, aload env h 3 p = (loadCellsV h 1 p).bind (·[0]?)) ∧ (∀ h p, aload env h 4 p = (loadCellsV h 1 p).bind (·[0]?)) ∧
    (∀ h p, aload env h 24 p = (loadCellsV h 1 p).bind (·[0]?)) ∧ (∀ h p, aload env h 23 p = (loadCellsV h 1 p).bind (·[0]?)) ∧ (∀ h p, aload env h 52 p = (loadCellsV h 3 p).map .agg) ∧ (∀ h p, aload env h 46 p = (loadCellsV h 4 p).map .agg) ∧
    zeroV env 52 = some (.agg [.int .i64 0, .int .i64 0, .str []]) ∧ zeroV env 46 = some (.agg [.str [], .int .i64 0, .int .i64 0, .nilsl]) := by
  have g9 : aggT env 9 = some false := by kernel_rfl
  have g44 : aggT env 44 = some false := by kernel_rfl
  have g3 : aggT env 3 = some false := by kernel_rfl
  have g4 : aggT env 4 = some false := by kernel_rfl
  have g24 : aggT env 24 = some false := by kernel_rfl
  have g23 : aggT env 23 = some false := by kernel_rfl
  have g52 : aggT env 52 = some true := by kernel_rfl
  have g46 : aggT env 46 = some true := by kernel_rfl
  have s52 : sz env 52 = some 3 := by kernel_rfl
  have s46 : sz env 46 = some 4 := by kernel_rfl
  exact ⟨by kernel_rfl, by kernel_rfl, by kernel_rfl, by kernel_rfl, by kernel_rfl, by kernel_rfl, by kernel_rfl, by kernel_rfl, by kernel_rfl, by kernel_rfl, by kernel_rfl, by kernel_rfl, by kernel_rfl, by kernel_rfl, by kernel_rfl, by kernel_rfl, by kernel_rfl, by kernel_rfl, by kernel_rfl, by kernel_rfl, by kernel_rfl, by kernel_rfl, by kernel_rfl, by kernel_rfl, by kernel_rfl, by kernel_rfl,
    fun _ _ => aload_one g9, fun _ _ => aload_one g44, fun _ _ => aload_one g3, fun _ _ => aload_one g4, fun _ _ => aload_one g24, fun _ _ => aload_one g23, fun h p => by unfold aload; rw [g52, s52]; rfl, fun h p => by unfold aload; rw [g46, s46]; rfl, by kernel_rfl, by kernel_rfl⟩
theorem at23 : env.P.funcs[23]? = some Tryd.f23 := by kernel_rfl
theorem at44 : env.P.funcs[44]? = some Tryd.f44 := by kernel_rfl
theorem at27 : env.P.funcs[27]? = some Tryd.f27 := by kernel_rfl
theorem at31 : env.P.funcs[31]? = some Tryd.f31 := by kernel_rfl
theorem pick_call (x n : Int) (hx : In64 x) (hn : In64 n) (h1 : 1 ≤ n) (σ : S) : callFn env (ev env) 44 [.int .i64 x, .int .i64 n] σ = some (.int .i64 (x % n), σ) := by
  refine callFn_pure rfl rfl rfl at44 rfl (by simp [Tryd.f44]) (by simp [Tryd.f44]) (G_start ?_) σ
  unfold In64 at hx hn
  have hne : (n = 0) = False := eq_false (by omega)
  have hb1 : Int.tmod x n < n := Int.tmod_lt_of_pos x (by omega)
  have hb2 : -n < Int.tmod x n := Int.lt_tmod_of_pos x (by omega)
  have e1 : IntKind.i64.wrap (Int.tmod x n) = Int.tmod x n := wrap_i64 (by omega) (by omega)
  have hem : x % n = if Int.tmod x n < 0 then Int.tmod x n + n else Int.tmod x n := by
    have h2 := Int.tmod_add_mul_tdiv x n
    split
    · rename_i h
      have : (Int.tmod x n + n + n * (Int.tdiv x n - 1)) % n = Int.tmod x n + n := by rw [Int.add_mul_emod_self_left]; exact Int.emod_eq_of_lt (by omega) (by omega)
      rw [← this]; congr 1; rw [Int.mul_sub]; omega
    · have : (Int.tmod x n + n * Int.tdiv x n) % n = Int.tmod x n := by rw [Int.add_mul_emod_self_left]; exact Int.emod_eq_of_lt (by omega) (by omega)
      rw [← this]; congr 1; omega
  by_cases h : Int.tmod x n < 0
  · rw [if_pos h] at hem
    have e2 : IntKind.i64.wrap (Int.tmod x n + n) = Int.tmod x n + n := wrap_i64 (by omega) (by omega)
    have g : (Int.tmod x n < 0) = True := eq_true h
    simp -implicitDefEqProofs only [Tryd.f44,Wa,Wb,Wc,Wd,We,Wf,Wg,Wh,Wi,Wj,Wk,Wl,Wm,Wn,Zo,Zp,evalT,Nat.reduceLT,Nat.reduceEqDiff,if_true,if_false,reduceIte,Ys,ofVal,ofCell,argT,resT,setT,Y0,Int.reduceEq,Int.reduceLT,Int.reduceLE,Int.reduceNeg,mb,Nat.reduceBEq,tys,stb,empty_mk,hne,e1,g,e2]
    rw [hem]; rfl
  · rw [if_neg h] at hem
    have g : (Int.tmod x n < 0) = False := eq_false h
    simp -implicitDefEqProofs only [Tryd.f44,Wa,Wb,Wc,Wd,We,Wf,Wg,Wh,Wi,Wj,Wk,Wl,Wm,Wn,Zo,Zp,evalT,Nat.reduceLT,Nat.reduceEqDiff,if_true,if_false,reduceIte,Ys,ofVal,ofCell,argT,resT,setT,Y0,Int.reduceEq,Int.reduceLT,Int.reduceLE,Int.reduceNeg,mb,Nat.reduceBEq,tys,stb,empty_mk,hne,e1,g]
    rw [hem]; rfl
abbrev tk (xv : V) (a : Nat) : AObj := .cells [xv, .int .i64 a] 39
theorem len_I' {v : V} {xs : List Int} (h : IsI v xs) (e : TypeId) : vLenT (some (.slice e)) v = some (.int .i64 xs.length) := by rcases h with ⟨rfl, rfl⟩ | rfl | rfl <;> simp [vLenT]
theorem take_gen (xv : V) (xs : List Int) (hx : IsI xv xs) (hin : ∀ x ∈ xs, In64 x) (hxl : xs.length < 2 ^ 63) (a : Nat) (ha : a ≤ xs.length) (n : Int) (hn : In64 n) :
    ∃ (r : Int) (a' : Nat), (∀ (L : List AObj) (b : Nat) ts, b < L.length → callFn env (ev env) 23 [.ptr b 0, .int .i64 n] ⟨L.set b (tk xv a), ts⟩ = some (.int .i64 r, ⟨L.set b (tk xv a'), ts⟩)) ∧ a' ≤ xs.length ∧ 0 ≤ r ∧ (1 ≤ n → r < n) ∧ (n < 1 → r = 0) := by
  have hln := len_I' hx 3
  unfold In64 at hn
  by_cases h1 : xs.length ≤ a
  · have g1 : ((a : Int) ≥ (xs.length : Int)) = True := eq_true (by omega)
    refine ⟨0, a, fun L b ts hb => ?_, ha, Int.le_refl _, fun h => by omega, fun _ => rfl⟩
    have hg : (L.set b (tk xv a))[b]? = some (tk xv a) := List.getElem?_set_self hb
    refine callFn_eq rfl rfl at23 rfl (by simp [Tryd.f23]) (by simp [Tryd.f23]) (G_start ?_)
    simp -implicitDefEqProofs only [Tryd.f23,Wa,Wb,Wc,Wd,We,Wf,Wg,Wh,Wi,Wj,Wk,Wl,Wm,Wn,Zo,Zp,evalT,Nat.reduceLT,Nat.reduceEqDiff,if_true,if_false,reduceIte,Ys,ofVal,ofCell,argT,resT,setT,Y0,Int.reduceEq,Int.reduceLT,Int.reduceLE,Int.reduceNeg,mb,Nat.reduceBEq,tys,stb,Va,storeList,Nat.reduceAdd,Nat.reduceLeDiff,opT_nilCheck,nilO_ptr,hg,hln,g1,vBin_sneq]
    exact ⟨by kernel_rfl, rfl, trivial⟩
  have g1 : ((a : Int) ≥ (xs.length : Int)) = False := eq_false (by omega)
  by_cases h2 : n < 1
  · have g2 : (n < 1) = True := eq_true h2
    refine ⟨0, a, fun L b ts hb => ?_, ha, Int.le_refl _, fun h => by omega, fun _ => rfl⟩
    have hg : (L.set b (tk xv a))[b]? = some (tk xv a) := List.getElem?_set_self hb
    refine callFn_eq rfl rfl at23 rfl (by simp [Tryd.f23]) (by simp [Tryd.f23]) (G_start ?_)
    simp -implicitDefEqProofs only [Tryd.f23,Wa,Wb,Wc,Wd,We,Wf,Wg,Wh,Wi,Wj,Wk,Wl,Wm,Wn,Zo,Zp,evalT,Nat.reduceLT,Nat.reduceEqDiff,if_true,if_false,reduceIte,Ys,ofVal,ofCell,argT,resT,setT,Y0,Int.reduceEq,Int.reduceLT,Int.reduceLE,Int.reduceNeg,mb,Nat.reduceBEq,tys,stb,Va,storeList,Nat.reduceAdd,Nat.reduceLeDiff,opT_nilCheck,nilO_ptr,hg,hln,g1,g2,vBin_sneq]
    exact ⟨by kernel_rfl, rfl, trivial⟩
  have g2 : (n < 1) = False := eq_false h2
  have hx64 := getD_in hin a
  have hP := pick_call (xs.getD a 0) n hx64 hn (by omega)
  have e1 : IntKind.i64.wrap ((a : Int) + 1) = ((a + 1 : Nat) : Int) := by rw [wrap_i64 (by omega) (by omega)]; omega
  have e2 : IntKind.i64.wrap (((a + 1 : Nat) : Int) - 1) = (a : Int) := by rw [wrap_i64 (by omega) (by omega)]; omega
  have hxv := idx_I hx (show a < xs.length by omega)
  refine ⟨xs.getD a 0 % n, a + 1, fun L b ts hb => ?_, by omega, Int.emod_nonneg _ (by omega), fun _ => Int.emod_lt_of_pos _ (by omega), fun h => absurd h h2⟩
  have hg : (L.set b (tk xv a))[b]? = some (tk xv a) := List.getElem?_set_self hb
  have hg2 : ((L.set b (tk xv a)).set b (tk xv (a + 1)))[b]? = some (tk xv (a + 1)) := by rw [List.set_set]; exact List.getElem?_set_self hb
  refine callFn_eq rfl rfl at23 rfl (by simp [Tryd.f23]) (by simp [Tryd.f23]) (G_start ?_)
  simp -implicitDefEqProofs only [Tryd.f23,Wa,Wb,Wc,Wd,We,Wf,Wg,Wh,Wi,Wj,Wk,Wl,Wm,Wn,Zo,Zp,evalT,Nat.reduceLT,Nat.reduceEqDiff,if_true,if_false,reduceIte,Ys,ofVal,ofCell,argT,resT,setT,Y0,Int.reduceEq,Int.reduceLT,Int.reduceLE,Int.reduceNeg,mb,Nat.reduceBEq,tys,stb,Va,storeList,Nat.reduceAdd,Nat.reduceLeDiff,opT_nilCheck,nilO_ptr,hg,hln,g1,g2,vBin_sneq,e1,hg2,e2,hxv,hP,load_hd]
  exact ⟨by kernel_rfl, rfl, by kernel_rfl, rfl, by rw [List.set_set]⟩
theorem take_call (L : List AObj) (b : Nat) (xv : V) (xs : List Int) (hx : IsI xv xs) (hin : ∀ x ∈ xs, In64 x) (hxl : xs.length < 2 ^ 63) (hb : b < L.length) (a : Nat) (ha : a ≤ xs.length) (n : Int) (hn : In64 n) :
    ∃ (r : Int) (a' : Nat), (∀ ts, callFn env (ev env) 23 [.ptr b 0, .int .i64 n] ⟨L.set b (tk xv a), ts⟩ = some (.int .i64 r, ⟨L.set b (tk xv a'), ts⟩)) ∧ a' ≤ xs.length ∧ 0 ≤ r ∧ (1 ≤ n → r < n) ∧ (n < 1 → r = 0) := by
  obtain ⟨r, a', h1, h2⟩ := take_gen xv xs hx hin hxl a ha n hn
  exact ⟨r, a', fun ts => h1 L b ts hb, h2⟩
theorem build52c (s : List UInt8) : buildO env 52 [(0, .int .i64 2), (2, .str s)] = some (.agg [.int .i64 2, .int .i64 0, .str s]) := by kernel_rfl
theorem build52o (x : Int) : buildO env 52 [(0, .int .i64 x)] = some (.agg [.int .i64 x, .int .i64 0, .str []]) := by kernel_rfl
theorem build52n (x n : Int) : buildO env 52 [(0, .int .i64 x), (1, .int .i64 n)] = some (.agg [.int .i64 x, .int .i64 n, .str []]) := by kernel_rfl
def Nd.v (x : Nd) : V := .agg [.int .i64 x.op, .int .i64 x.n, .str x.col]
theorem column_call (s : List UInt8) (σ : S) : callFn env (ev env) 27 [.str s] σ = some (Nd.v ⟨2, 0, s⟩, σ) := by
  refine callFn_pure rfl rfl rfl at27 rfl (by simp [Tryd.f27]) (by simp [Tryd.f27]) (G_start ?_) σ
  simp -implicitDefEqProofs only [Tryd.f27,Wa,Wb,Wc,Wd,We,Wf,Wg,Wh,Wi,Wj,Wk,Wl,Wm,Wn,Zo,Zp,evalT,Nat.reduceLT,Nat.reduceEqDiff,if_true,if_false,reduceIte,Ys,ofVal,ofCell,argT,resT,setT,Y0,Int.reduceEq,Int.reduceLT,Int.reduceLE,Int.reduceNeg,mb,Nat.reduceBEq,tys,stb,Va,storeList,Nat.reduceAdd,Nat.reduceLeDiff,empty_mk,build52c,isCell_int,isCell_str]
  exact V1i rfl rfl
theorem number_call (n : Int) (σ : S) : callFn env (ev env) 31 [.int .i64 n] σ = some (Nd.v ⟨1, n, []⟩, σ) := by
  refine callFn_pure rfl rfl rfl at31 rfl (by simp [Tryd.f31]) (by simp [Tryd.f31]) (G_start ?_) σ
  simp -implicitDefEqProofs only [Tryd.f31,Wa,Wb,Wc,Wd,We,Wf,Wg,Wh,Wi,Wj,Wk,Wl,Wm,Wn,Zo,Zp,evalT,Nat.reduceLT,Nat.reduceEqDiff,if_true,if_false,reduceIte,Ys,ofVal,ofCell,argT,resT,setT,Y0,Int.reduceEq,Int.reduceLT,Int.reduceLE,Int.reduceNeg,mb,Nat.reduceBEq,tys,stb,Va,storeList,Nat.reduceAdd,Nat.reduceLeDiff,empty_mk,build52n,isCell_int,isCell_str]
  exact V1i rfl rfl
end Go.Proofs.YtcjapamldllleaaDoor.N
namespace Go.Proofs.YtcjapamldllleaaDoor.N
open Go.Ab
set_option maxHeartbeats 4000000
set_option maxHeartbeats 4000000
set_option maxRecDepth 100000
set_option linter.unusedSimpArgs false
set_option linter.unusedVariables false
set_option linter.unusedSectionVars false
theorem eN : Elt env 22 52 3 32 := ⟨by kernel_rfl, by kernel_rfl, by kernel_rfl, by kernel_rfl, by kernel_rfl⟩
theorem eC : Elt env 23 46 4 56 := ⟨by kernel_rfl, by kernel_rfl, by kernel_rfl, by kernel_rfl, by kernel_rfl⟩
theorem eI : Elt env 24 3 1 8 := ⟨by kernel_rfl, by kernel_rfl, by kernel_rfl, by kernel_rfl, by kernel_rfl⟩
theorem flatN_len : ∀ l : List Nd, (flatN l).length = l.length * 3
  | [] => rfl
  | x :: l => by rw [flatN_cons]; simp only [List.length_cons, flatN_len l]; omega
theorem flatN_app (a b : List Nd) : flatN (a ++ b) = flatN a ++ flatN b := by simp [flatN]
theorem rowN1 (a b c : V) : rowO env 22 1 [(0, .agg [a, b, c])] = some (.row [a, b, c] 1 .full) := by kernel_rfl
theorem rowN3 (a b c d e f g h i : V) : rowO env 22 3 [(0, .agg [a, b, c]), (1, .agg [d, e, f]), (2, .agg [g, h, i])] = some (.row [a, b, c, d, e, f, g, h, i] 3 .full) := by kernel_rfl
theorem rowC1 (a b c d : V) : rowO env 23 1 [(0, .agg [a, b, c, d])] = some (.row [a, b, c, d] 1 .full) := by kernel_rfl
theorem rowI1 (a : Int) : rowO env 24 1 [(0, .int .i64 a)] = some (.row [.int .i64 a] 1 .full) := by kernel_rfl
abbrev GN (base : Nat) (ts : List Nat) (v : V) (l : List Nd) : Prop := GrowV base ts 3 v l.length (flatN l)
theorem GN.push {base : Nat} {hp : List AObj} {ts : List Nat} {v : V} {l : List Nd} (g : GN base ts v l) (hb : base ≤ ts.length) (x : Nd) (q : RCap) (hl : l.length ≤ 4000) : ∃ v' ts', appO env false ⟨hp, ts⟩ 22 22 v (.row [.int .i64 x.op, .int .i64 x.n, .str x.col] 1 q) = some (v', ⟨hp, ts'⟩) ∧ GN base ts' v' (l ++ [x]) ∧ Ext base ts ts' := by
  have hlim : lim = 2 ^ 40 := rfl
  have := GrowV.push (E := env) (hp := hp) (q := q) (new := [.int .i64 x.op, .int .i64 x.n, .str x.col]) eN ⟨52, eN.slice⟩ g hb rfl (by simp [V.isCell]) ⟨by rw [hlim]; omega, by rw [hlim]; omega⟩
  obtain ⟨v', ts', h1, h2, h3⟩ := this
  refine ⟨v', ts', h1, ?_, h3⟩
  unfold GN
  rw [List.length_append, flatN_app]; exact h2
theorem GN.append {base : Nat} {hp : List AObj} {ts : List Nat} {v y : V} {l m : List Nd} (g : GN base ts v l) (hb : base ≤ ts.length) (hy : vLen y = some m.length) (hc : vCells hp 3 m.length y = some (flatN m)) (hl : l.length ≤ 4000) (hm : m.length ≤ 4000) : ∃ v' ts', appO env false ⟨hp, ts⟩ 22 22 v y = some (v', ⟨hp, ts'⟩) ∧ GN base ts' v' (l ++ m) ∧ Ext base ts ts' := by
  have hlim : lim = 2 ^ 40 := rfl
  have hcell : (flatN m).all V.isCell = true := by
    induction m with
    | nil => rfl
    | cons x m ih => simp only [List.length_cons] at hm; rw [flatN_cons]; simp only [List.all_cons, V.isCell, Bool.true_and]; clear hy hc hm ih; induction m with
      | nil => rfl
      | cons x m ih => rw [flatN_cons]; simp only [List.all_cons, V.isCell, Bool.true_and]; exact ih
  have := GrowV.append (E := env) eN ⟨52, eN.slice⟩ g hb hy hc (flatN_len m) hcell ⟨by rw [hlim]; omega, by rw [hlim]; omega⟩
  obtain ⟨v', ts', h1, h2, h3⟩ := this
  refine ⟨v', ts', h1, ?_, h3⟩
  unfold GN
  rw [List.length_append, flatN_app]; exact h2
theorem GN.full (base : Nat) (ts : List Nat) (l : List Nd) : GN base ts (.row (flatN l) l.length .full) l := GrowV.full _ _ (flatN_len l)
theorem flatC_at' {cs : List Col} {i : Nat} (h : i < cs.length) : ∃ r, (flatC cs).drop (i * 4) = .str (cs.getD i Col.none).name :: .int .i64 (cs.getD i Col.none).lo :: .int .i64 (cs.getD i Col.none).hi :: (cs.getD i Col.none).w :: r := by
  induction cs generalizing i with
  | nil => simp at h
  | cons c cs ih =>
    cases i with
    | zero => exact ⟨flatC cs, by rw [flatC_cons]; rfl⟩
    | succ i =>
      obtain ⟨r, hr⟩ := ih (i := i) (by simpa using h)
      refine ⟨r, ?_⟩
      rw [flatC_cons, show (i + 1) * 4 = i * 4 + 1 + 1 + 1 + 1 by omega]
      simp only [List.drop_succ_cons, List.getD_cons_succ]
      exact hr
theorem idx_C' (cs : List Col) (q : RCap) {i : Nat} (h : i < cs.length) : ∃ r, vIndexAddr 4 (.row (flatC cs) cs.length q) (.int .i64 i) = some (.rptr (.str (cs.getD i Col.none).name :: .int .i64 (cs.getD i Col.none).lo :: .int .i64 (cs.getD i Col.none).hi :: (cs.getD i Col.none).w :: r)) := by
  obtain ⟨r, hr⟩ := flatC_at' h
  exact ⟨r, by rw [Ys, if_pos (by omega), Int.toNat_natCast, hr]⟩
inductive Sgl (cs : List Col) : Nat → Ex → Prop where
  | first : Sgl cs 0 (.col (cs.getD 0 Col.none).name)
  | neg {i : Nat} {e : Ex} : Sgl cs i e → Sgl cs i (.una 7 e)
  | next {i : Nat} {e : Ex} (op : Int) : Sgl cs i e → 4 ≤ op → op ≤ 6 → Sgl cs (i + 1) (.bin op e (.col (cs.getD (i + 1) Col.none).name))
  | num {i : Nat} {e : Ex} (op n : Int) : Sgl cs i e → 4 ≤ op → op ≤ 6 → 0 ≤ n → n ≤ 5 → Sgl cs i (.bin op e (.num n))
end Go.Proofs.YtcjapamldllleaaDoor.N
namespace Go.Proofs.YtcjapamldllleaaDoor.N
open Go.Ab
set_option maxHeartbeats 4000000
set_option maxHeartbeats 4000000
set_option maxRecDepth 100000
set_option linter.unusedSimpArgs false
set_option linter.unusedVariables false
set_option linter.unusedSectionVars false
theorem callW {E : Env} {f : FuncId} {args : List V} {v : V} (hp : E.pure f = true) (hk : E.hook f = none) (h1 : args.all V.closed = true → ∀ σ, callFn E (ev E) f args σ = some (v, σ))
    (h2 : (args.map V.weak).all V.closed = true) (h3 : ∀ σ, callFn E (ev E) f (args.map V.weak) σ = some (v, σ)) (σ : S) : callFn E (ev E) f args σ = some (v, σ) := by
  cases h : args.all V.closed with
  | true => exact h1 h σ
  | false => rw [callFn_weak hp hk h h2 σ]; exact h3 σ
theorem weakL_flatN : ∀ l : List Nd, V.weak.weakL (flatN l) = flatN l
  | [] => rfl
  | x :: l => by rw [flatN_cons]; simp only [V.weak.weakL, V.weak, weakL_flatN l]
def RN (v : V) (l : List Nd) : Prop := (v.closed = true → IsN v l) ∧ IsN v.weak l
def RC (v : V) (cs : List Col) : Prop := (v.closed = true → IsC v cs) ∧ IsC v.weak cs
def RI (v : V) (xs : List Int) : Prop := (v.closed = true → IsI v xs) ∧ IsI v.weak xs
theorem flatN_nil {l : List Nd} (h : (flatN l) = []) : l = [] := by
  cases l with
  | nil => rfl
  | cons x l => rw [flatN_cons] at h; simp at h
theorem RN.grow {base : Nat} {ts : List Nat} {v : V} {l : List Nd} (g : GN base ts v l) : RN v l := by
  unfold GN at g
  generalize hc : flatN l = cs at g
  generalize hn : l.length = n at g
  cases g with
  | nil => exact ⟨fun _ => .inl ⟨rfl, flatN_nil hc⟩, .inl ⟨rfl, flatN_nil hc⟩⟩
  | full _ _ hl => subst hc hn; exact ⟨fun _ => .inr (.inr rfl), .inr (.inr (by simp only [V.weak, weakL_flatN, RCap.weak]))⟩
  | tok _ _ k e hl hb ht => subst hc hn; exact ⟨fun h => by simp [V.closed] at h, .inr (.inl (by simp only [V.weak, weakL_flatN, RCap.weak]))⟩
theorem RC.row {cs : List Col} (ok : OkC cs) (q : RCap) : RC (.row (flatC cs) cs.length q) cs := by
  refine ⟨fun h => ?_, ?_⟩
  · cases q with
    | full => exact .inr ⟨.full, .inr rfl, rfl⟩
    | unk => exact .inr ⟨.unk, .inl rfl, rfl⟩
    | tok k e w => simp [V.closed] at h
  · have := weakL_flatC ok
    cases q with
    | full => exact .inr ⟨.full, .inr rfl, by simp only [V.weak, this, RCap.weak]⟩
    | unk => exact .inr ⟨.unk, .inl rfl, by simp only [V.weak, this, RCap.weak]⟩
    | tok k e w => exact .inr ⟨.unk, .inl rfl, by simp only [V.weak, this, RCap.weak]⟩
theorem RI.row (xs : List Int) (q : RCap) : RI (.row (xs.map (V.int .i64)) xs.length q) xs := by
  refine ⟨fun h => ?_, ?_⟩
  · cases q with
    | full => exact .inr (.inr rfl)
    | unk => exact .inr (.inl rfl)
    | tok k e w => simp [V.closed] at h
  · cases q with
    | full => exact .inr (.inr (by simp only [V.weak, weakL_ints', RCap.weak]))
    | unk => exact .inr (.inl (by simp only [V.weak, weakL_ints', RCap.weak]))
    | tok k e w => exact .inr (.inl (by simp only [V.weak, weakL_ints', RCap.weak]))
structure Fit (v : V) (l : List Nd) (cv : V) (cs : List Col) : Prop where
  hv : RN v l
  hl : l.length ≤ 1000
  hc : RC cv cs
  ok : OkC cs
  hcl : cs.length ≤ 1000
  hs : ∀ i, i < cs.length → Short (cs.getD i Col.none)
section
variable {v : V} {l : List Nd} {cv : V} {cs : List Col} {xv : V} {xs : List Int}
theorem Fit.closed (F : Fit v l cv cs) (h : v.closed = true) (h2 : cv.closed = true) : Fine v l cv cs := ⟨F.hv.1 h, F.hl, F.hc.1 h2, F.ok, F.hcl, F.hs⟩
theorem Fit.weak (F : Fit v l cv cs) : Fine v.weak l cv.weak cs := ⟨F.hv.2, F.hl, F.hc.2, F.ok, F.hcl, F.hs⟩
open Classical in
theorem of_call (F : Fit v l cv cs) (σ : S) : callFn env (ev env) 14 [v, cv] σ = some (.tup (if Acc l cs false then [.int .i64 (spanV l cs).1, .int .i64 (spanV l cs).2] else [.int .i64 0, .int .i64 0]), σ) := by
  refine call_of hk14 (callW rfl rfl (fun h => ?_) ?_ ?_) _ σ
  · simp only [List.all_cons, List.all_nil, Bool.and_true, Bool.and_eq_true] at h
    exact YtcjapamldllleaaDoor.of_call (F.closed h.1 h.2)
  · have := F.weak
    simp only [List.map_cons, List.map_nil, List.all_cons, List.all_nil, closed_C this.hc this.ok, closed_N this.hv, Bool.and_self]
  · exact YtcjapamldllleaaDoor.of_call F.weak
open Classical in
theorem can_call (F : Fit v l cv cs) (σ : S) : callFn env (ev env) 16 [v, cv] σ = some (.tup (if Acc l cs true then [.bool (decide ((spanV l cs).2 = 1)), .bool (decide ((spanV l cs).1 = 0))] else [.bool false, .bool false]), σ) := by
  refine call_of hk16 (callW rfl rfl (fun h => ?_) ?_ ?_) _ σ
  · simp only [List.all_cons, List.all_nil, Bool.and_true, Bool.and_eq_true] at h
    exact YtcjapamldllleaaDoor.can_call (F.closed h.1 h.2)
  · have := F.weak
    simp only [List.map_cons, List.map_nil, List.all_cons, List.all_nil, closed_C this.hc this.ok, closed_N this.hv, Bool.and_self]
  · exact YtcjapamldllleaaDoor.can_call F.weak
structure FitI (xv : V) (xs : List Int) : Prop where
  hx : RI xv xs
  hxl : xs.length ≤ 1000
  hin : ∀ x ∈ xs, In64 x
theorem value_call (F : Fit v l cv cs) (G : FitI xv xs) (σ : S) : callFn env (ev env) 10 [v, cv, xv] σ = some (.int .i64 (valueV l cs xs), σ) := by
  refine call_of hk10 (callW rfl rfl (fun h => ?_) ?_ ?_) _ σ
  · simp only [List.all_cons, List.all_nil, Bool.and_true, Bool.and_eq_true] at h
    exact YtcjapamldllleaaDoor.value_call (F.closed h.1 h.2.1) ⟨G.hx.1 h.2.2, G.hxl, G.hin⟩
  · have := F.weak
    simp only [List.map_cons, List.map_nil, List.all_cons, List.all_nil, closed_C this.hc this.ok, closed_N this.hv, closed_I G.hx.2, Bool.and_self]
  · exact YtcjapamldllleaaDoor.value_call F.weak ⟨G.hx.2, G.hxl, G.hin⟩
theorem holds_call (F : Fit v l cv cs) (G : FitI xv xs) (σ : S) : callFn env (ev env) 12 [v, cv, xv] σ = some (.bool (holdsV l cs xs), σ) := by
  refine call_of hk12 (callW rfl rfl (fun h => ?_) ?_ ?_) _ σ
  · simp only [List.all_cons, List.all_nil, Bool.and_true, Bool.and_eq_true] at h
    exact YtcjapamldllleaaDoor.holds_call (F.closed h.1 h.2.1) ⟨G.hx.1 h.2.2, G.hxl, G.hin⟩
  · have := F.weak
    simp only [List.map_cons, List.map_nil, List.all_cons, List.all_nil, closed_C this.hc this.ok, closed_N this.hv, closed_I G.hx.2, Bool.and_self]
  · exact YtcjapamldllleaaDoor.holds_call F.weak ⟨G.hx.2, G.hxl, G.hin⟩
end
theorem firstQ_neg (f : Nat → Bool) : ∀ m i, firstQ f m i = -1 → ∀ k, i ≤ k → k < i + m → f k = false
  | 0, i, _, k, h1, h2 => by omega
  | m + 1, i, h, k, h1, h2 => by
    simp only [firstQ] at h
    by_cases hf : f i = true
    · rw [if_pos hf] at h; omega
    · rw [if_neg hf] at h
      by_cases hk : k = i
      · rw [hk]; simpa using hf
      · exact firstQ_neg f m (i + 1) h k (by omega) (by omega)
open Classical in
theorem of_tree {v cv : V} {e : Ex} {cs : List Col} (F : Fit v e.post cv cs) (hP : Proper cs) (hw : WF cs e) (hl : e.post.length ≤ 200) (hk : e.kind = 0) (σ : S) : callFn env (ev env) 14 [v, cv] σ = some (.tup [.int .i64 (e.spn cs).1, .int .i64 (e.spn cs).2], σ) := by
  obtain ⟨w1, w2, w3⟩ := Ex.whole hw hl
  have hA : Acc e.post cs false := ⟨by rw [w1, hk]; simp, hP⟩
  have h := of_call F σ
  rw [if_pos hA, w3] at h
  exact h
open Classical in
theorem can_tree {v cv : V} {e : Ex} {cs : List Col} (F : Fit v e.post cv cs) (hP : Proper cs) (hw : WF cs e) (hl : e.post.length ≤ 200) (hk : e.kind = 1) (σ : S) : callFn env (ev env) 16 [v, cv] σ = some (.tup [.bool (decide ((e.spn cs).2 = 1)), .bool (decide ((e.spn cs).1 = 0))], σ) := by
  obtain ⟨w1, w2, w3⟩ := Ex.whole hw hl
  have hA : Acc e.post cs true := ⟨by rw [w1, hk]; simp, hP⟩
  have h := can_call F σ
  rw [if_pos hA, w3] at h
  exact h
open Classical in
theorem value_tree {v cv xv : V} {e : Ex} {cs : List Col} {xs : List Int} (F : Fit v e.post cv cs) (G : FitI xv xs) (hP : Proper cs) (hf : Fits cs xs) (hw : WF cs e) (hl : e.post.length ≤ 200) (hk : e.kind = 0) (σ : S) : callFn env (ev env) 10 [v, cv, xv] σ = some (.int .i64 (e.val cs xs), σ) := by
  obtain ⟨w1, w2, w3⟩ := Ex.whole hw hl
  have hA : Acc e.post cs false := ⟨by rw [w1, hk]; simp, hP⟩
  have h := value_call F G σ
  unfold valueV at h
  rw [if_pos ⟨hA, hf⟩, w2] at h
  exact h
open Classical in
theorem holds_tree {v cv xv : V} {e : Ex} {cs : List Col} {xs : List Int} (F : Fit v e.post cv cs) (G : FitI xv xs) (hP : Proper cs) (hf : Fits cs xs) (hw : WF cs e) (hl : e.post.length ≤ 200) (hk : e.kind = 1) (σ : S) : callFn env (ev env) 12 [v, cv, xv] σ = some (.bool (decide (e.val cs xs = 1)), σ) := by
  obtain ⟨w1, w2, w3⟩ := Ex.whole hw hl
  have hA : Acc e.post cs true := ⟨by rw [w1, hk]; simp, hP⟩
  have h := holds_call F G σ
  unfold holdsV at h
  rw [if_pos ⟨hA, hf⟩, w2] at h
  exact h
end Go.Proofs.YtcjapamldllleaaDoor.N
namespace Go.Proofs.YtcjapamldllleaaDoor.N
open Go.Ab
set_option maxHeartbeats 4000000
set_option maxHeartbeats 4000000
set_option maxRecDepth 100000
set_option linter.unusedSimpArgs false
set_option linter.unusedVariables false
set_option linter.unusedSectionVars false
theorem build39 {v : V} {xs : List Int} (h : IsI v xs) : buildO env 39 [(0, v)] = some (.agg [v, .int .i64 0]) := by
  rcases h with ⟨rfl, rfl⟩ | rfl | rfl <;> kernel_rfl
theorem isCell_I {v : V} {xs : List Int} (h : IsI v xs) : v.isCell = true := by rcases h with ⟨rfl, _⟩ | rfl | rfl <;> rfl
theorem sc_take (ag : Array Operand) (ts : Array TypeId) : scOp env (.call ⟨.value (.func 23), ag, ts⟩) = true := rfl
theorem flatC_app (a b : List Col) : flatC (a ++ b) = flatC a ++ flatC b := by simp [flatC]
abbrev GC (base : Nat) (ts : List Nat) (v : V) (cs : List Col) : Prop := GrowV base ts 4 v cs.length (flatC cs)
abbrev GI (base : Nat) (ts : List Nat) (v : V) (xs : List Int) : Prop := GrowV base ts 1 v xs.length (xs.map (V.int .i64))
theorem GC.push {base : Nat} {hp : List AObj} {ts : List Nat} {v : V} {cs : List Col} (g : GC base ts v cs) (hb : base ≤ ts.length) (c : Col) (hc : c.w.isCell = true) (q : RCap) (hl : cs.length ≤ 4000) : ∃ v' ts', appO env false ⟨hp, ts⟩ 23 23 v (.row [.str c.name, .int .i64 c.lo, .int .i64 c.hi, c.w] 1 q) = some (v', ⟨hp, ts'⟩) ∧ GC base ts' v' (cs ++ [c]) ∧ Ext base ts ts' := by
  have hlim : lim = 2 ^ 40 := rfl
  have := GrowV.push (E := env) (hp := hp) (q := q) (new := [.str c.name, .int .i64 c.lo, .int .i64 c.hi, c.w]) eC ⟨46, eC.slice⟩ g hb rfl (by simp only [List.all_cons, List.all_nil, hc]; rfl) ⟨by rw [hlim]; omega, by rw [hlim]; omega⟩
  obtain ⟨v', ts', h1, h2, h3⟩ := this
  refine ⟨v', ts', h1, ?_, h3⟩
  unfold GC
  rw [List.length_append, flatC_app]; exact h2
theorem GI.push {base : Nat} {hp : List AObj} {ts : List Nat} {v : V} {xs : List Int} (g : GI base ts v xs) (hb : base ≤ ts.length) (x : Int) (q : RCap) (hl : xs.length ≤ 4000) : ∃ v' ts', appO env false ⟨hp, ts⟩ 24 24 v (.row [.int .i64 x] 1 q) = some (v', ⟨hp, ts'⟩) ∧ GI base ts' v' (xs ++ [x]) ∧ Ext base ts ts' := by
  have hlim : lim = 2 ^ 40 := rfl
  have := GrowV.push (E := env) (hp := hp) (q := q) (new := [.int .i64 x]) eI ⟨3, eI.slice⟩ g hb rfl (by simp [V.isCell]) ⟨by rw [hlim]; omega, by rw [hlim]; omega⟩
  obtain ⟨v', ts', h1, h2, h3⟩ := this
  refine ⟨v', ts', h1, ?_, h3⟩
  unfold GI
  rw [List.length_append, List.map_append]; exact h2
theorem fits_row {cs : List Col} {xs : List Int} (h : Fits cs xs) : Row cs xs := fun nm hs => by
  obtain ⟨j, k1, k2, k3⟩ := colN_at hs
  unfold cellX
  rw [k1, k3, Int.toNat_natCast]
  exact h.2 j k2
end Go.Proofs.YtcjapamldllleaaDoor.N
namespace Go.Proofs.YtcjapamldllleaaDoor.N
open Go.Ab
set_option maxHeartbeats 4000000
set_option maxHeartbeats 4000000
set_option maxRecDepth 100000
set_option linter.unusedSimpArgs false
set_option linter.unusedVariables false
set_option linter.unusedSectionVars false
def Kp (L L' : List AObj) (b : Nat) : Prop := L.length ≤ L'.length ∧ ∀ q, q < L.length → q ≠ b → L'[q]? = L[q]?
theorem Kp.rfl' (L : List AObj) (b : Nat) : Kp L L b := ⟨Nat.le_refl _, fun _ _ _ => rfl⟩
theorem Kp.trans {L L2 L3 : List AObj} {b : Nat} (h : Kp L L2 b) (g : Kp L2 L3 b) : Kp L L3 b := ⟨Nat.le_trans h.1 g.1, fun q hq hb => by rw [g.2 q (by have := h.1; omega) hb, h.2 q hq hb]⟩
theorem Kp.app {L : List AObj} (X : List AObj) (b : Nat) : Kp L (L ++ X) b := ⟨by simp, fun q hq _ => List.getElem?_append_left hq⟩
structure Tk (xv : V) (xs : List Int) : Prop where
  hx : IsI xv xs
  hin : ∀ x ∈ xs, In64 x
  hxl : xs.length < 2 ^ 63
def Has (L : List AObj) (b : Nat) (xv : V) (xs : List Int) : Prop := ∃ a : Nat, a ≤ xs.length ∧ L[b]? = some (tk xv a)
theorem Has.lt {L : List AObj} {b : Nat} {xv : V} {xs : List Int} (h : Has L b xv xs) : b < L.length := by
  obtain ⟨a, _, h⟩ := h
  exact (List.getElem?_eq_some_iff.1 h).1
theorem Has.app {L : List AObj} {b : Nat} {xv : V} {xs : List Int} (h : Has L b xv xs) (X : List AObj) : Has (L ++ X) b xv xs := by
  have := h.lt
  obtain ⟨a, h1, h2⟩ := h
  exact ⟨a, h1, by rw [List.getElem?_append_left this]; exact h2⟩
theorem take_at {xv : V} {xs : List Int} (K : Tk xv xs) {L : List AObj} {b : Nat} (h : Has L b xv xs) (n : Int) (hn : In64 n) :
    ∃ (r : Int) (L' : List AObj), (∀ ts, callFn env (ev env) 23 [.ptr b 0, .int .i64 n] ⟨L, ts⟩ = some (.int .i64 r, ⟨L', ts⟩)) ∧ Has L' b xv xs ∧ Kp L L' b ∧ L'.length = L.length ∧ 0 ≤ r ∧ (1 ≤ n → r < n) ∧ (n < 1 → r = 0) := by
  have hb := h.lt
  obtain ⟨a, ha, hg⟩ := h
  obtain ⟨r, a', h1, h2, h3, h4, h5⟩ := take_call L b xv xs K.hx K.hin K.hxl hb a ha n hn
  have e : L.set b (tk xv a) = L := by
    have : L[b] = tk xv a := by rw [List.getElem?_eq_getElem hb] at hg; exact Option.some.inj hg
    rw [← this]; exact List.set_getElem_self hb
  rw [e] at h1
  exact ⟨r, L.set b (tk xv a'), h1, ⟨a', h2, List.getElem?_set_self hb⟩, ⟨by simp, fun q hq hqb => List.getElem?_set_ne (Ne.symm hqb)⟩, by simp, h3, h4, h5⟩
theorem take_ext {xv : V} {xs : List Int} (K : Tk xv xs) {L : List AObj} {b : Nat} (h : Has L b xv xs) (n : Int) (hn : In64 n) :
    ∃ (r : Int) (L' : List AObj), (∀ X ts, callFn env (ev env) 23 [.ptr b 0, .int .i64 n] ⟨L ++ X, ts⟩ = some (.int .i64 r, ⟨L' ++ X, ts⟩)) ∧ Has L' b xv xs ∧ Kp L L' b ∧ L'.length = L.length ∧ 0 ≤ r ∧ (1 ≤ n → r < n) ∧ (n < 1 → r = 0) := by
  have hb := h.lt
  obtain ⟨a, ha, hg⟩ := h
  obtain ⟨r, a', h1, h2, h3, h4, h5⟩ := take_gen xv xs K.hx K.hin K.hxl a ha n hn
  have e : L.set b (tk xv a) = L := by
    have : L[b] = tk xv a := by rw [List.getElem?_eq_getElem hb] at hg; exact Option.some.inj hg
    rw [← this]; exact List.set_getElem_self hb
  refine ⟨r, L.set b (tk xv a'), fun X ts => ?_, ⟨a', h2, List.getElem?_set_self hb⟩, ⟨by simp, fun q hq hqb => List.getElem?_set_ne (Ne.symm hqb)⟩, by simp, h3, h4, h5⟩
  have := h1 (L ++ X) b ts (by simp; omega)
  rw [List.set_append_left _ _ hb, List.set_append_left _ _ hb, e] at this
  exact this
theorem at43 : env.P.funcs[43]? = some Tryd.f43 := by kernel_rfl
def IsFirst (cs : List Col) (i : Nat) : Prop := ∀ k, k < i → (cs.getD k Col.none).name ≠ (cs.getD i Col.none).name
open Classical in
theorem first_call (cs : List Col) (ok : OkC cs) (q : RCap) (i : Nat) (hi : i < cs.length) (hl : cs.length ≤ 1000) (σ : S) : callFn env (ev env) 43 [.row (flatC cs) cs.length q, .int .i64 i] σ = some (.bool (decide (IsFirst cs i)), σ) := by
  have key : ∀ q : RCap, (V.row (flatC cs) cs.length q).closed = true → ∀ σ, callFn env (ev env) 43 [.row (flatC cs) cs.length q, .int .i64 i] σ = some (.bool (decide (IsFirst cs i)), σ) := fun q hc σ => by
    refine callFn_pure rfl rfl (by simp only [List.all_cons, List.all_nil, hc]; rfl) at43 rfl (by simp [Tryd.f43]) (by simp [Tryd.f43]) (G_start ?_) σ
    simp -implicitDefEqProofs only [Tryd.f43,Wa,Wb,Wc,Wd,We,Wf,Wg,Wh,Wi,Wj,Wk,Wl,Wm,Wn,Zo,Zp,evalT,Nat.reduceLT,Nat.reduceEqDiff,if_true,if_false,reduceIte,Ys,ofVal,ofCell,argT,resT,setT,Y0,Int.reduceEq,Int.reduceLT,Int.reduceLE,Int.reduceNeg,mb,Nat.reduceBEq,tys,stb,Va,storeList,Nat.reduceAdd,Nat.reduceLeDiff,empty_mk]
    refine loop_rule (fun m T D σ => D = [] ∧ T 0 = .row (flatC cs) cs.length q ∧ T 1 = .int .i64 i ∧ σ = ⟨[], []⟩ ∧ ∃ k : Nat, T 5 = .int .i64 k ∧ k ≤ i ∧ m = i - k ∧ ∀ j, j < k → (cs.getD j Col.none).name ≠ (cs.getD i Col.none).name) ?_ (i - 0) _ _ _ ⟨rfl, rfl, rfl, rfl, 0, rfl, Nat.zero_le _, rfl, fun j hj => by omega⟩
    rintro m T D σ ⟨rfl, t0, t1, rfl, k, t5, hk, rfl, hall⟩
    refine G_start ?_
    by_cases hlt : k < i
    · have c1 : (k : Int) < (i : Int) := by omega
      have e1 : IntKind.i64.wrap ((k : Int) + 1) = ((k + 1 : Nat) : Int) := by rw [wrap_i64 (by omega) (by omega)]; omega
      obtain ⟨r1, h1⟩ := idx_C' cs q (show k < cs.length by omega)
      obtain ⟨r2, h2⟩ := idx_C' cs q hi
      by_cases he : (cs.getD k Col.none).name = (cs.getD i Col.none).name
      · have g : ((cs.getD k Col.none).name = (cs.getD i Col.none).name) = True := eq_true he
        rw [decide_eq_false (show ¬ IsFirst cs i from fun h => h k hlt he)]
        simp -implicitDefEqProofs only [Wa,Wb,Wc,Wd,We,Wf,Wg,Wh,Wi,Wj,Wk,Wl,Wm,Wn,Zo,Zp,evalT,Nat.reduceLT,Nat.reduceEqDiff,if_true,if_false,reduceIte,Ys,ofVal,ofCell,argT,resT,setT,Y0,Int.reduceEq,Int.reduceLT,Int.reduceLE,Int.reduceNeg,mb,Nat.reduceBEq,tys,stb,Va,storeList,Nat.reduceAdd,Nat.reduceLeDiff,t0,t1,t5,-Ys,c1,e1,h1,h2,load_hd,vBin_seql,g]
        exact ⟨by kernel_rfl, rfl⟩
      · have g : ((cs.getD k Col.none).name = (cs.getD i Col.none).name) = False := eq_false he
        simp -implicitDefEqProofs only [Wa,Wb,Wc,Wd,We,Wf,Wg,Wh,Wi,Wj,Wk,Wl,Wm,Wn,Zo,Zp,evalT,Nat.reduceLT,Nat.reduceEqDiff,if_true,if_false,reduceIte,Ys,ofVal,ofCell,argT,resT,setT,Y0,Int.reduceEq,Int.reduceLT,Int.reduceLE,Int.reduceNeg,mb,Nat.reduceBEq,tys,stb,Va,storeList,Nat.reduceAdd,Nat.reduceLeDiff,t0,t1,t5,-Ys,c1,e1,h1,h2,load_hd,vBin_seql,g]
        exact ⟨by kernel_rfl, i - (k + 1), by omega, k + 1, rfl, by omega, rfl, fun j hj => by
          by_cases hjk : j = k
          · rw [hjk]; exact he
          · exact hall j (by omega)⟩
    · have hki : k = i := by omega
      subst hki
      have c1 : ¬ (k : Int) < (k : Int) := by omega
      rw [decide_eq_true (show IsFirst cs k from hall)]
      simp -implicitDefEqProofs only [Wa,Wb,Wc,Wd,We,Wf,Wg,Wh,Wi,Wj,Wk,Wl,Wm,Wn,Zo,Zp,evalT,Nat.reduceLT,Nat.reduceEqDiff,if_true,if_false,reduceIte,Ys,ofVal,ofCell,argT,resT,setT,Y0,Int.reduceEq,Int.reduceLT,Int.reduceLE,Int.reduceNeg,mb,Nat.reduceBEq,tys,stb,Va,storeList,Nat.reduceAdd,Nat.reduceLeDiff,t0,t1,t5,c1]
      rfl
  have hw := weakL_flatC ok
  refine callW rfl rfl (fun h => key q ?_) ?_ ?_ σ
  · simp only [List.all_cons, List.all_nil, Bool.and_true, Bool.and_eq_true] at h; exact h.1
  · have := closed_C (RC.row ok q).2 ok
    simp only [List.map_cons, List.map_nil, List.all_cons, List.all_nil, this]; rfl
  · have := closed_C (RC.row ok q).2 ok
    cases q with
    | full => simp only [List.map_cons, List.map_nil, V.weak, hw, RCap.weak] at this ⊢; exact key _ this
    | unk => simp only [List.map_cons, List.map_nil, V.weak, hw, RCap.weak] at this ⊢; exact key _ this
    | tok k e w => simp only [List.map_cons, List.map_nil, V.weak, hw, RCap.weak] at this ⊢; exact key _ this
theorem first_col {cs : List Col} {i : Nat} (hi : i < cs.length) (h : IsFirst cs i) : colN cs (cs.getD i Col.none).name = cs.getD i Col.none := by
  rcases seekK_spec cs (cs.getD i Col.none).name with e | ⟨j, e, hj, hn, hf⟩
  · have := firstQ_neg (fun k => decide ((cs.getD k Col.none).name = (cs.getD i Col.none).name)) cs.length 0 e i (Nat.zero_le _) (by omega)
    simp at this
  · have : j = i := by
      rcases Nat.lt_trichotomy j i with h1 | h1 | h1
      · exact absurd hn (h j h1)
      · exact h1
      · exact absurd rfl (hf i h1)
    subst this
    unfold colN
    rw [e, if_pos (by omega), Int.toNat_natCast]
theorem seek_any {cs : List Col} {i : Nat} (hi : i < cs.length) : 0 ≤ seekK cs (cs.getD i Col.none).name := by
  rcases seekK_spec cs (cs.getD i Col.none).name with e | ⟨j, e, _⟩
  · have := firstQ_neg (fun k => decide ((cs.getD k Col.none).name = (cs.getD i Col.none).name)) cs.length 0 e i (Nat.zero_le _) (by omega)
    simp at this
  · omega
end Go.Proofs.YtcjapamldllleaaDoor.N
namespace Go.Proofs.YtcjapamldllleaaDoor.N
open Go.Ab
set_option maxHeartbeats 4000000
set_option maxHeartbeats 4000000
set_option maxRecDepth 100000
set_option linter.unusedSimpArgs false
set_option linter.unusedVariables false
set_option linter.unusedSectionVars false
theorem at45 : env.P.funcs[45]? = some Tryd.f45 := by kernel_rfl
theorem at25 : env.P.funcs[25]? = some Tryd.f25 := by kernel_rfl
theorem at66 : env.P.funcs[66]? = some Tryd.f66 := by kernel_rfl
theorem at65 : env.P.funcs[65]? = some Tryd.f65 := by kernel_rfl
theorem eW : Elt env 44 9 1 16 := ⟨by kernel_rfl, by kernel_rfl, by kernel_rfl, by kernel_rfl, by kernel_rfl⟩
theorem rowW0 : rowO env 44 0 [] = some (.row [] 0 .full) := by kernel_rfl
theorem rowW4 (a b c d : List UInt8) : rowO env 44 4 [(0, .str a), (1, .str b), (2, .str c), (3, .str d)] = some (.row [.str a, .str b, .str c, .str d] 4 .full) := by kernel_rfl
theorem rowW5 (a b c d e : List UInt8) : rowO env 44 5 [(0, .str a), (1, .str b), (2, .str c), (3, .str d), (4, .str e)] = some (.row [.str a, .str b, .str c, .str d, .str e] 5 .full) := by kernel_rfl
def rowW (ws : List (List UInt8)) : V := .row (ws.map V.str) ws.length .unk
theorem rowW_is (ws : List (List UInt8)) : IsW (rowW ws) ws := .inr rfl
theorem strs_cell : ∀ ws : List (List UInt8), (ws.map V.str).all V.isCell = true
  | [] => rfl
  | w :: ws => by simp only [List.map_cons, List.all_cons, V.isCell, strs_cell ws, Bool.and_self]
theorem own_call (w : V) (ws : List (List UInt8)) (h : IsW w ws) (hl : ws.length ≤ 1000) (σ : S) : callFn env (ev env) 45 [w] σ = some (rowW ws, σ) := by
  refine callFn_pure rfl rfl (by simp only [List.all_cons, List.all_nil, closed_W h]; rfl) at45 rfl (by simp [Tryd.f45]) (by simp [Tryd.f45]) (G_start ?_) σ
  have hlim : lim = 2 ^ 40 := rfl
  have g0 : GrowV 0 [] 1 (.row [] 0 .full) 0 [] := .full _ _ rfl
  by_cases hz : ws = []
  · subst hz
    have hA : appO env false ⟨[], []⟩ 44 44 (.row [] 0 .full) w = some (.row [] 0 .full, ⟨[], []⟩) := by rcases h with ⟨rfl, _⟩ | rfl <;> kernel_rfl
    simp -implicitDefEqProofs only [Tryd.f45,Wa,Wb,Wc,Wd,We,Wf,Wg,Wh,Wi,Wj,Wk,Wl,Wm,Wn,Zo,Zp,evalT,Nat.reduceLT,Nat.reduceEqDiff,if_true,if_false,reduceIte,Ys,ofVal,ofCell,argT,resT,setT,Y0,Int.reduceEq,Int.reduceLT,Int.reduceLE,Int.reduceNeg,mb,Nat.reduceBEq,tys,stb,Va,storeList,Nat.reduceAdd,Nat.reduceLeDiff,empty_mk,opT_rowO,rowW0,hA]
    rfl
  have hpos : 0 < ws.length := by
    cases ws with
    | nil => exact absurd rfl hz
    | cons x ws => simp
  have hv : vLen w = some ws.length ∧ vCells [] 1 ws.length w = some (ws.map V.str) := by
    rcases h with ⟨rfl, rfl⟩ | rfl
    · exact ⟨rfl, rfl⟩
    · refine ⟨rfl, ?_⟩
      simp only [vCells, List.length_map, Nat.mul_one]
      rw [if_pos ⟨Nat.le_refl _, Nat.le_refl _⟩, List.take_of_length_le (by simp)]
  obtain ⟨v', ts', hA, hg, _⟩ := GrowV.append (E := env) (hp := []) (y := w) eW ⟨9, eW.slice⟩ g0 (Nat.zero_le _) hv.1 hv.2 (by simp) (strs_cell ws) ⟨by rw [hlim]; omega, by rw [hlim]; omega⟩
  simp -implicitDefEqProofs only [Tryd.f45,Wa,Wb,Wc,Wd,We,Wf,Wg,Wh,Wi,Wj,Wk,Wl,Wm,Wn,Zo,Zp,evalT,Nat.reduceLT,Nat.reduceEqDiff,if_true,if_false,reduceIte,Ys,ofVal,ofCell,argT,resT,setT,Y0,Int.reduceEq,Int.reduceLT,Int.reduceLE,Int.reduceNeg,mb,Nat.reduceBEq,tys,stb,Va,storeList,Nat.reduceAdd,Nat.reduceLeDiff,empty_mk,opT_rowO,rowW0,hA]
  rw [List.nil_append, Nat.zero_add] at hg
  obtain ⟨q, rfl⟩ := hg.isrow hpos
  change sealV [] 12 (V.row (List.map V.str ws) ws.length q) = _
  rw [sealV_row, seal_strs']; rfl
theorem ld4_0 (a b c d : V) (t : TypeId) (X : List AObj) : loadCellsV (.cells [a, b, c, d] t :: X) 4 (.ptr 0 0) = some [a, b, c, d] := rfl
theorem seal46 (h : List AObj) (nm : List UInt8) (lo hi : Int) (ws : List (List UInt8)) : sealV h 12 (.agg [.str nm, .int .i64 lo, .int .i64 hi, .row (ws.map V.str) ws.length .unk]) = some (.agg [.str nm, .int .i64 lo, .int .i64 hi, .row (ws.map V.str) ws.length .unk]) := by
  rw [sealV_agg, mapM_seal_cons, mapM_seal_cons, mapM_seal_cons, mapM_seal_cons, mapM_seal_nil, sealV_str, sealV_int, sealV_int, sealV_row, seal_strs']; rfl
theorem copy_call (c : Col) (h : IsW c.w c.ws) (hl : c.ws.length ≤ 1000) (σ : S) : callFn env (ev env) 25 [aggC c] σ = some (.agg [.str c.name, .int .i64 c.lo, .int .i64 c.hi, rowW c.ws], σ) := by
  obtain ⟨nm, lo, hi, w, ws⟩ := c
  simp only at h hl ⊢
  have hic := isCell_W h
  have hO := own_call w ws h hl
  refine callFn_pure rfl rfl (by simp only [aggC, List.all_cons, List.all_nil, V.closed, V.closed.closedL, closed_W h]; rfl) at25 rfl (by simp [Tryd.f25]) (by simp [Tryd.f25]) (G_start ?_) σ
  unfold rowW at hO ⊢
  simp -implicitDefEqProofs only [Tryd.f25,Wa,Wb,Wc,Wd,We,Wf,Wg,Wh,Wi,Wj,Wk,Wl,Wm,Wn,Zo,Zp,evalT,Nat.reduceLT,Nat.reduceEqDiff,if_true,if_false,reduceIte,Ys,ofVal,ofCell,argT,resT,setT,Y0,Int.reduceEq,Int.reduceLT,Int.reduceLE,Int.reduceNeg,mb,Nat.reduceBEq,tys,stb,Va,storeList,Nat.reduceAdd,Nat.reduceLeDiff,empty_mk,aggC,hO,isCell_int,isCell_str,hic,ld4_0]
  refine V1i rfl ?_
  exact seal46 _ nm lo hi ws
def reds : List (List UInt8) := [[114, 101, 100], [103, 114, 101, 101, 110], [98, 108, 117, 101], [103, 114, 101, 121], [112, 105, 110, 107]]
def ages : List (List UInt8) := [[97, 103, 101], [99, 111, 108, 111, 117, 114], [104, 101, 105, 103, 104, 116], [112, 108, 97, 99, 101], [115, 99, 111, 114, 101]]
def tabs : List (List UInt8) := [[112, 101, 111, 112, 108, 101], [118, 105, 115, 105, 116, 115], [112, 108, 97, 99, 101, 115], [110, 111, 116, 101, 115]]
theorem names0_call (σ : S) : callFn env (ev env) 66 [.int .i64 0] σ = some (rowW tabs, σ) := by
  refine callFn_pure rfl rfl rfl at66 rfl (by simp [Tryd.f66]) (by simp [Tryd.f66]) (G_start ?_) σ
  simp -implicitDefEqProofs only [Tryd.f66,Wa,Wb,Wc,Wd,We,Wf,Wg,Wh,Wi,Wj,Wk,Wl,Wm,Wn,Zo,Zp,evalT,Nat.reduceLT,Nat.reduceEqDiff,if_true,if_false,reduceIte,Ys,ofVal,ofCell,argT,resT,setT,Y0,Int.reduceEq,Int.reduceLT,Int.reduceLE,Int.reduceNeg,mb,Nat.reduceBEq,tys,stb,Va,storeList,Nat.reduceAdd,Nat.reduceLeDiff,empty_mk,opT_rowO,rowW4,rowW5]
  rfl
theorem names1_call (σ : S) : callFn env (ev env) 66 [.int .i64 1] σ = some (rowW ages, σ) := by
  refine callFn_pure rfl rfl rfl at66 rfl (by simp [Tryd.f66]) (by simp [Tryd.f66]) (G_start ?_) σ
  simp -implicitDefEqProofs only [Tryd.f66,Wa,Wb,Wc,Wd,We,Wf,Wg,Wh,Wi,Wj,Wk,Wl,Wm,Wn,Zo,Zp,evalT,Nat.reduceLT,Nat.reduceEqDiff,if_true,if_false,reduceIte,Ys,ofVal,ofCell,argT,resT,setT,Y0,Int.reduceEq,Int.reduceLT,Int.reduceLE,Int.reduceNeg,mb,Nat.reduceBEq,tys,stb,Va,storeList,Nat.reduceAdd,Nat.reduceLeDiff,empty_mk,opT_rowO,rowW4,rowW5]
  rfl
theorem names2_call (σ : S) : callFn env (ev env) 66 [.int .i64 2] σ = some (rowW reds, σ) := by
  refine callFn_pure rfl rfl rfl at66 rfl (by simp [Tryd.f66]) (by simp [Tryd.f66]) (G_start ?_) σ
  simp -implicitDefEqProofs only [Tryd.f66,Wa,Wb,Wc,Wd,We,Wf,Wg,Wh,Wi,Wj,Wk,Wl,Wm,Wn,Zo,Zp,evalT,Nat.reduceLT,Nat.reduceEqDiff,if_true,if_false,reduceIte,Ys,ofVal,ofCell,argT,resT,setT,Y0,Int.reduceEq,Int.reduceLT,Int.reduceLE,Int.reduceNeg,mb,Nat.reduceBEq,tys,stb,Va,storeList,Nat.reduceAdd,Nat.reduceLeDiff,empty_mk,opT_rowO,rowW4,rowW5]
  rfl
def KitC (nm : List UInt8) (c : Col) : Prop := c.name = nm ∧ ((c.w = .nilsl ∧ c.ws = [] ∧ -3 ≤ c.lo ∧ c.lo ≤ c.hi ∧ c.hi ≤ 20) ∨ ∃ k, 1 ≤ k ∧ k ≤ 5 ∧ c.ws = reds.take k ∧ c.w = rowW (reds.take k) ∧ c.lo = 0 ∧ c.hi = (k : Int) - 1)
theorem build46n (s : List UInt8) : buildO env 46 [(0, .str s)] = some (.agg [.str s, .int .i64 0, .int .i64 0, .nilsl]) := by kernel_rfl
theorem slice_red1 : sliceO env 44 (rowW reds) none (some (.int .i64 1)) none = some (rowW (reds.take 1)) := by kernel_rfl
theorem slice_red2 : sliceO env 44 (rowW reds) none (some (.int .i64 2)) none = some (rowW (reds.take 2)) := by kernel_rfl
theorem slice_red3 : sliceO env 44 (rowW reds) none (some (.int .i64 3)) none = some (rowW (reds.take 3)) := by kernel_rfl
theorem slice_red4 : sliceO env 44 (rowW reds) none (some (.int .i64 4)) none = some (rowW (reds.take 4)) := by kernel_rfl
theorem slice_red5 : sliceO env 44 (rowW reds) none (some (.int .i64 5)) none = some (rowW (reds.take 5)) := by kernel_rfl
theorem slice_reds (k : Nat) (h1 : 1 ≤ k) (h2 : k ≤ 5) : sliceO env 44 (rowW reds) none (some (.int .i64 k)) none = some (rowW (reds.take k)) := by
  have h : k = 1 ∨ k = 2 ∨ k = 3 ∨ k = 4 ∨ k = 5 := by omega
  rcases h with rfl | rfl | rfl | rfl | rfl
  · exact slice_red1
  · exact slice_red2
  · exact slice_red3
  · exact slice_red4
  · exact slice_red5
theorem ld4_at {h : List AObj} {n : Nat} {a b c d : V} {t : TypeId} (hh : h[n]? = some (.cells [a, b, c, d] t)) : loadCellsV h 4 (.ptr n 0) = some [a, b, c, d] := by simp [loadCellsV, hh]
theorem column65_call {xv : V} {xs : List Int} (K : Tk xv xs) {L : List AObj} {b : Nat} (hH : Has L b xv xs) (nm : List UInt8) (ts : List Nat) :
    ∃ v σ', callFn env (ev env) 65 [.ptr b 0, .str nm] ⟨L, ts⟩ = some (v, σ') ∧ ∃ (c : Col) (L' : List AObj), v = aggC c ∧ σ' = ⟨L', ts⟩ ∧ Has L' b xv xs ∧ Kp L L' b ∧ KitC nm c := by
  have hbl := hH.lt
  obtain ⟨k1, M1, hT1, hH1, hK1, hl1, p1, p2, _⟩ := take_at K ((hH.app [AObj.cells [V.str [], V.int IntKind.i64 0, V.int IntKind.i64 0, V.nilsl] 46]).app [AObj.cells [V.str nm, V.int IntKind.i64 0, V.int IntKind.i64 0, V.nilsl] 46]) 3 (by simp [In64])
  refine callFn_any rfl rfl at65 rfl (by simp [Tryd.f65]) (by simp [Tryd.f65]) (G_start ?_)
  have b46 := build46n nm
  have hlen : (L ++ [AObj.cells [V.str [], V.int IntKind.i64 0, V.int IntKind.i64 0, V.nilsl] 46]).length = L.length + 1 := by simp
  have hN2 := names2_call
  have hp2 := p2 (by decide)
  have hG1 : M1[(L ++ [AObj.cells [V.str [], V.int IntKind.i64 0, V.int IntKind.i64 0, V.nilsl] 46]).length]? = some (.cells [V.str nm, V.int IntKind.i64 0, V.int IntKind.i64 0, V.nilsl] 46) := by
    rw [hK1.2 _ (by simp) (by omega)]; exact heap_end _ _
  have hZ1 : M1[L.length]? = some (.cells [V.str [], V.int IntKind.i64 0, V.int IntKind.i64 0, V.nilsl] 46) := by
    rw [hK1.2 _ (by simp) (by omega), List.getElem?_append_left (by simp)]; exact heap_end _ _
  have hKL1 : Kp L M1 b := ((Kp.app _ _).trans (Kp.app _ _)).trans hK1
  have hE1 : ∀ c : AObj, (L ++ [AObj.cells [V.str [], V.int IntKind.i64 0, V.int IntKind.i64 0, V.nilsl] 46] ++ [c])[(L ++ [AObj.cells [V.str [], V.int IntKind.i64 0, V.int IntKind.i64 0, V.nilsl] 46]).length]? = some c := fun c => heap_end _ _
  have hE2 : ∀ c d : AObj, (L ++ [AObj.cells [V.str [], V.int IntKind.i64 0, V.int IntKind.i64 0, V.nilsl] 46] ++ [c]).set (L ++ [AObj.cells [V.str [], V.int IntKind.i64 0, V.int IntKind.i64 0, V.nilsl] 46]).length d = L ++ [AObj.cells [V.str [], V.int IntKind.i64 0, V.int IntKind.i64 0, V.nilsl] 46] ++ [d] := fun c d => set_end _ _ _
  generalize hPe : (L ++ [AObj.cells [V.str [], V.int IntKind.i64 0, V.int IntKind.i64 0, V.nilsl] 46]).length = P at *
  have seto : ∀ (M : List AObj) (X Y : AObj), M[P]? = some X → (M.set P Y)[P]? = some Y := fun M X Y h => List.getElem?_set_self (List.getElem?_eq_some_iff.1 h).1
  have setz : ∀ (M : List AObj) (Y : AObj), (M.set P Y)[L.length]? = M[L.length]? := fun M Y => List.getElem?_set_ne (by omega)
  have keep : ∀ (M : List AObj) (Y Z : AObj), Has M b xv xs → Kp L M b → Has ((M.set P Y).set L.length Z) b xv xs ∧ Kp L ((M.set P Y).set L.length Z) b := fun M Y Z h1 h2 => by
    obtain ⟨a, e1, e2⟩ := h1
    refine ⟨⟨a, e1, by rw [List.getElem?_set_ne (by omega), List.getElem?_set_ne (by omega)]; exact e2⟩, by have := h2.1; simp; omega, fun q hq hqb => ?_⟩
    rw [List.getElem?_set_ne (by omega), List.getElem?_set_ne (by omega)]; exact h2.2 q hq hqb
  by_cases h1 : k1 = 1
  · have g1 : (k1 = 1) = True := eq_true h1
    obtain ⟨k2, M2, hT2, hH2, hK2, hl2, p3, p4, _⟩ := take_at K hH1 5 (by simp [In64])
    have hp4 := p4 (by decide)
    obtain ⟨k, hk⟩ : ∃ k : Nat, 1 + k2 = (k : Int) := ⟨(1 + k2).toNat, by omega⟩
    have e1 : IntKind.i64.wrap (1 + k2) = (k : Int) := by rw [wrap_i64 (by omega) (by omega)]; exact hk
    have hsl := slice_reds k (by omega) (by omega)
    have hrl : (reds.take k).length = k := by simp [reds]; omega
    have hO := own_call (rowW (reds.take k)) (reds.take k) (rowW_is _) (by omega)
    have e2 : IntKind.i64.wrap ((k : Int) - 1) = (k : Int) - 1 := wrap_i64 (by omega) (by omega)
    have hG2 : M2[P]? = some (.cells [V.str nm, V.int IntKind.i64 0, V.int IntKind.i64 0, V.nilsl] 46) := by rw [hK2.2 _ (List.getElem?_eq_some_iff.1 hG1).1 (by omega)]; exact hG1
    have hZ2 : M2[L.length]? = some (.cells [V.str [], V.int IntKind.i64 0, V.int IntKind.i64 0, V.nilsl] 46) := by rw [hK2.2 _ (List.getElem?_eq_some_iff.1 hZ1).1 (by omega)]; exact hZ1
    have hs := fun Y => seto M2 _ Y hG2
    have hz := fun Y => (setz M2 Y).trans hZ2
    have hll : ∀ e, vLenT (some (.slice e)) (rowW (reds.take k)) = some (.int .i64 k) := fun e => by unfold rowW; rw [hrl]; rfl
    have hwc : (rowW (reds.take k)).isCell = true := rfl
    have hwc2 : (rowW (reds.take k)).cells = [rowW (reds.take k)] := rfl
    have hkp := keep M2 (.cells [V.str nm, V.int IntKind.i64 0, V.int IntKind.i64 ((k : Int) - 1), rowW (reds.take k)] 46) (.cells [V.str nm, V.int IntKind.i64 0, V.int IntKind.i64 ((k : Int) - 1), rowW (reds.take k)] 46) hH2 (hKL1.trans hK2)
    generalize hw : rowW (reds.take k) = w at *
    have hl4 := ld4_at (hs (.cells [V.str nm, V.int IntKind.i64 0, V.int IntKind.i64 ((k : Int) - 1), w] 46))
    simp -implicitDefEqProofs only [Tryd.f65,Wa,Wb,Wc,Wd,We,Wf,Wg,Wh,Wi,Wj,Wk,Wl,Wm,Wn,Zo,Zp,evalT,Nat.reduceLT,Nat.reduceEqDiff,if_true,if_false,reduceIte,Ys,ofVal,ofCell,argT,resT,setT,Y0,Int.reduceEq,Int.reduceLT,Int.reduceLE,Int.reduceNeg,mb,Nat.reduceBEq,tys,stb,Va,storeList,Nat.reduceAdd,Nat.reduceLeDiff,empty_mk,b46,isCell_int,isCell_str,isCell_nilsl,hT1,g1,heap_end,set_end,hN2,hT2,e1,opT_slice,optO_none,optO_some,hsl,hO,hG2,hwc,hwc2,hs,List.set_set,hll,e2,hl4,hz,hPe,hE1,hE2]
    refine V1i (v := [.agg [V.str nm, V.int IntKind.i64 0, V.int IntKind.i64 ((k : Int) - 1), w]]) (by rw [ld4_at (List.getElem?_set_self (List.getElem?_eq_some_iff.1 (hz _)).1)]; rfl) ?_
    exact ⟨⟨nm, 0, (k : Int) - 1, w, reds.take k⟩, _, rfl, rfl, hkp.1, hkp.2, rfl, .inr ⟨k, by omega, by omega, rfl, hw.symm, rfl, rfl⟩⟩
  · have g1 : (k1 = 1) = False := eq_false h1
    obtain ⟨k2, M2, hT2, hH2, hK2, hl2, p3, p4, _⟩ := take_at K hH1 9 (by simp [In64])
    have hp4 := p4 (by decide)
    have e1 : IntKind.i64.wrap (k2 - 3) = k2 - 3 := wrap_i64 (by omega) (by omega)
    have hG2 : M2[P]? = some (.cells [V.str nm, V.int IntKind.i64 0, V.int IntKind.i64 0, V.nilsl] 46) := by rw [hK2.2 _ (List.getElem?_eq_some_iff.1 hG1).1 (by omega)]; exact hG1
    have hZ2 : M2[L.length]? = some (.cells [V.str [], V.int IntKind.i64 0, V.int IntKind.i64 0, V.nilsl] 46) := by rw [hK2.2 _ (List.getElem?_eq_some_iff.1 hZ1).1 (by omega)]; exact hZ1
    have hs2 := seto M2 _ (.cells [V.str nm, V.int IntKind.i64 (k2 - 3), V.int IntKind.i64 0, V.nilsl] 46) hG2
    have hz2 := (setz M2 (.cells [V.str nm, V.int IntKind.i64 (k2 - 3), V.int IntKind.i64 0, V.nilsl] 46)).trans hZ2
    have hH2' : Has (M2.set P (.cells [V.str nm, V.int IntKind.i64 (k2 - 3), V.int IntKind.i64 0, V.nilsl] 46)) b xv xs := by
      obtain ⟨a, a1, a2⟩ := hH2
      exact ⟨a, a1, by rw [List.getElem?_set_ne (by omega)]; exact a2⟩
    have hKL2 : Kp L (M2.set P (.cells [V.str nm, V.int IntKind.i64 (k2 - 3), V.int IntKind.i64 0, V.nilsl] 46)) b := by
      have h2 := hKL1.trans hK2
      exact ⟨by have := h2.1; simp; omega, fun q hq hqb => by rw [List.getElem?_set_ne (by omega)]; exact h2.2 q hq hqb⟩
    obtain ⟨k3, M3, hT3, hH3, hK3, hl3, p5, p6, _⟩ := take_at K hH2' 8 (by simp [In64])
    have hp6 := p6 (by decide)
    have e3 : IntKind.i64.wrap (k2 - 3 + k3) = k2 - 3 + k3 := wrap_i64 (by omega) (by omega)
    have hG3 : M3[P]? = some (.cells [V.str nm, V.int IntKind.i64 (k2 - 3), V.int IntKind.i64 0, V.nilsl] 46) := by rw [hK3.2 _ (by have := (List.getElem?_eq_some_iff.1 hs2).1; omega) (by omega)]; exact hs2
    have hZ3 : M3[L.length]? = some (.cells [V.str [], V.int IntKind.i64 0, V.int IntKind.i64 0, V.nilsl] 46) := by rw [hK3.2 _ (by have := (List.getElem?_eq_some_iff.1 hz2).1; omega) (by omega)]; exact hz2
    have hs := fun Y => seto M3 _ Y hG3
    have hz := fun Y => (setz M3 Y).trans hZ3
    have hkp := keep M3 (.cells [V.str nm, V.int IntKind.i64 (k2 - 3), V.int IntKind.i64 (k2 - 3 + k3), V.nilsl] 46) (.cells [V.str nm, V.int IntKind.i64 (k2 - 3), V.int IntKind.i64 (k2 - 3 + k3), V.nilsl] 46) hH3 (hKL2.trans hK3)
    have hl4 := ld4_at (hs (.cells [V.str nm, V.int IntKind.i64 (k2 - 3), V.int IntKind.i64 (k2 - 3 + k3), V.nilsl] 46))
    simp -implicitDefEqProofs only [Tryd.f65,Wa,Wb,Wc,Wd,We,Wf,Wg,Wh,Wi,Wj,Wk,Wl,Wm,Wn,Zo,Zp,evalT,Nat.reduceLT,Nat.reduceEqDiff,if_true,if_false,reduceIte,Ys,ofVal,ofCell,argT,resT,setT,Y0,Int.reduceEq,Int.reduceLT,Int.reduceLE,Int.reduceNeg,mb,Nat.reduceBEq,tys,stb,Va,storeList,Nat.reduceAdd,Nat.reduceLeDiff,empty_mk,b46,isCell_int,isCell_str,isCell_nilsl,hT1,g1,heap_end,set_end,hT2,e1,hG2,hPe,hE1,hE2]
    refine G_stab rfl (fun s => cellAt s.heap[P]? 1 = some (V.int IntKind.i64 (k2 - 3))) (by rw [hs2]; rfl) (by kernel_rfl) ?_
    simp -implicitDefEqProofs only [Wa,Wb,Wc,Wd,We,Wf,Wg,Wh,Wi,Wj,Wk,Wl,Wm,Wn,Zo,Zp,evalT,Nat.reduceLT,Nat.reduceEqDiff,if_true,if_false,reduceIte,Ys,ofVal,ofCell,argT,resT,setT,Y0,Int.reduceEq,Int.reduceLT,Int.reduceLE,Int.reduceNeg,mb,Nat.reduceBEq,tys,stb,Va,storeList,Nat.reduceAdd,Nat.reduceLeDiff,isCell_int,isCell_str,isCell_nilsl,hs2,hT3,e3,hG3,hs,List.set_set,hl4,hz,sc_take,sc_load,sc_move,sc_indexAddr,sc_fieldAddr,rd_fieldAddr,sc_build',rd_build',rd_bs,sc_binOp,rd_binOp,sc_assign,rd_assign,sc_store,rd_store,rd_load,rd_move,rd_indexAddr,rd_call,aread_load]
    refine ⟨fun s h => h, V1i (v := [.agg [V.str nm, V.int IntKind.i64 (k2 - 3), V.int IntKind.i64 (k2 - 3 + k3), V.nilsl]]) (by rw [ld4_at (List.getElem?_set_self (List.getElem?_eq_some_iff.1 (hz _)).1)]; rfl) ?_⟩
    exact ⟨⟨nm, k2 - 3, k2 - 3 + k3, .nilsl, []⟩, _, rfl, rfl, hkp.1, hkp.2, rfl, .inl ⟨rfl, rfl, by simp only; omega, by simp only; omega, by simp only; omega⟩⟩
end Go.Proofs.YtcjapamldllleaaDoor.N
namespace Go.Proofs.YtcjapamldllleaaDoor.N
open Go.Ab
set_option maxHeartbeats 4000000
set_option maxHeartbeats 4000000
set_option maxRecDepth 100000
set_option linter.unusedSimpArgs false
set_option linter.unusedVariables false
set_option linter.unusedSectionVars false
theorem at42 : env.P.funcs[42]? = some Tryd.f42 := by kernel_rfl
theorem at21 : env.P.funcs[21]? = some Tryd.f21 := by kernel_rfl
theorem rowI5 (a b c d e : Int) : rowO env 24 5 [(0, .int .i64 a), (1, .int .i64 b), (2, .int .i64 c), (3, .int .i64 d), (4, .int .i64 e)] = some (.row [.int .i64 a, .int .i64 b, .int .i64 c, .int .i64 d, .int .i64 e] 5 .full) := by kernel_rfl
theorem idx_nums {k : Int} (h0 : 0 ≤ k) (h : k < 5) : ∃ (n : Int) (r : List V), 0 ≤ n ∧ n ≤ 1000000000 ∧ vIndexAddr 1 (.row [.int .i64 0, .int .i64 1, .int .i64 2, .int .i64 1000000, .int .i64 1000000000] 5 .full) (.int .i64 k) = some (.rptr (.int .i64 n :: r)) := by
  have : k = 0 ∨ k = 1 ∨ k = 2 ∨ k = 3 ∨ k = 4 := by omega
  rcases this with rfl | rfl | rfl | rfl | rfl
  · exact ⟨0, _, by decide, by decide, rfl⟩
  · exact ⟨1, _, by decide, by decide, rfl⟩
  · exact ⟨2, _, by decide, by decide, rfl⟩
  · exact ⟨1000000, _, by decide, by decide, rfl⟩
  · exact ⟨1000000000, _, by decide, by decide, rfl⟩
def bnd : Nat → Nat
  | 0 => 3
  | d + 1 => 3 * bnd d + 1
theorem bnd_pos : ∀ d, 3 ≤ bnd d
  | 0 => Nat.le_refl _
  | d + 1 => by have := bnd_pos d; simp only [bnd]; omega
def Draws (f : FuncId) (k : Int) (xv : V) (xs : List Int) (cs : List Col) (q : RCap) (d : Nat) : Prop :=
  ∀ (L : List AObj) (b : Nat) (ts : List Nat), Has L b xv xs → ∃ v σ', callFn env (ev env) f [.ptr b 0, .row (flatC cs) cs.length q, .int .i64 d] ⟨L, ts⟩ = some (v, σ') ∧
    ∃ (e : Ex) (L' : List AObj) (ts' : List Nat), σ' = ⟨L', ts'⟩ ∧ Has L' b xv xs ∧ Kp L L' b ∧ GN ts.length ts' v e.post ∧ Ext ts.length ts ts' ∧ WF cs e ∧ e.kind = k ∧ e.post.length ≤ bnd d
theorem bnd_le {d : Nat} (h : d ≤ 2) : bnd d ≤ 31 := by
  have : d = 0 ∨ d = 1 ∨ d = 2 := by omega
  rcases this with rfl | rfl | rfl <;> decide
theorem draw2 {f1 f2 : FuncId} {ka kb : Int} {xv : V} {xs : List Int} {cs : List Col} {q : RCap} {d : Nat} (D1 : Draws f1 ka xv xs cs q d) (D2 : Draws f2 kb xv xs cs q d) (hd : d ≤ 2) {M : List AObj} {b : Nat} (ts : List Nat) (hM : Has M b xv xs) :
    ∃ (v1 : V) (L1 : List AObj) (ts1 : List Nat) (v2 : V) (L2 : List AObj) (ts2 : List Nat) (v3 : V) (ts3 : List Nat) (e1 e2 : Ex),
      callFn env (ev env) f1 [.ptr b 0, .row (flatC cs) cs.length q, .int .i64 d] ⟨M, ts⟩ = some (v1, ⟨L1, ts1⟩) ∧ callFn env (ev env) f2 [.ptr b 0, .row (flatC cs) cs.length q, .int .i64 d] ⟨L1, ts1⟩ = some (v2, ⟨L2, ts2⟩) ∧ appO env false ⟨L2, ts2⟩ 22 22 v1 v2 = some (v3, ⟨L2, ts3⟩) ∧
      Has L2 b xv xs ∧ Kp M L2 b ∧ GN ts.length ts3 v3 (e1.post ++ e2.post) ∧ Ext ts.length ts ts3 ∧ ts.length ≤ ts3.length ∧ WF cs e1 ∧ WF cs e2 ∧ e1.kind = ka ∧ e2.kind = kb ∧ e1.post.length ≤ bnd d ∧ e2.post.length ≤ bnd d := by
  obtain ⟨v1, _, c1, e1, L1, ts1, rfl, a1, a2, a3, a4, a5, a6, a7⟩ := D1 M b ts hM
  obtain ⟨v2, _, c2, e2, L2, ts2, rfl, b1, b2, b3, b4, b5, b6, b7⟩ := D2 L1 b ts1 a1
  have := bnd_le hd
  have g1 := a3.ext b4
  obtain ⟨v3, ts3, c3, g3, x3⟩ := GN.append (hp := L2) g1 (Nat.le_trans a4.1 b4.1) b3.vlen (b3.vcells L2) (by omega) (by omega)
  have x : Ext ts.length ts ts3 := (a4.trans (b4.mono a4.1)).trans x3
  exact ⟨v1, L1, ts1, v2, L2, ts2, v3, ts3, e1, e2, c1, c2, c3, b1, a2.trans b2, g3, x, x.1, a5, b5, a6, b6, a7, b7⟩
section
variable {xv : V} {xs : List Int} (K : Tk xv xs) {cs : List Col} (q : RCap) (ok : OkC cs) (h1 : 1 ≤ cs.length) (h2 : cs.length ≤ 1000) (hws : ∀ i, i < cs.length → (cs.getD i Col.none).ws.length ≤ 1000)
include K ok h1 h2 hws
theorem operand_step (d : Nat) (hd : d ≤ 3) (ihO : ∀ d', d = d' + 1 → Draws 42 0 xv xs cs q d') (ihC : ∀ d', d = d' + 1 → Draws 21 1 xv xs cs q d') : Draws 42 0 xv xs cs q d := by
  intro L b ts hH
  have hbl := hH.lt
  obtain ⟨k0, M0, hT0, hH0, hK0, hl0, p1, p2, _⟩ := take_at K hH (cs.length : Int) (by unfold In64; omega)
  have hp2 := p2 (by omega)
  obtain ⟨i, hi⟩ : ∃ i : Nat, k0 = (i : Int) := ⟨k0.toNat, by omega⟩
  subst hi
  have hi : i < cs.length := by omega
  obtain ⟨rr, hix⟩ := idx_C' cs q hi
  have hwc := isCell_W (ok.at hi)
  generalize hc : cs.getD i Col.none = c at *
  obtain ⟨k1, M1, hT1, hH1, hK1, hl1, p3, p4, _⟩ := take_at K (hH0.app [AObj.cells [V.str c.name, V.int .i64 c.lo, V.int .i64 c.hi, c.w] 46]) 8 (by simp [In64])
  have hp4 := p4 (by decide)
  have hG1 : M1[M0.length]? = some (.cells [V.str c.name, V.int .i64 c.lo, V.int .i64 c.hi, c.w] 46) := by rw [hK1.2 _ (by simp) (by omega)]; exact heap_end _ _
  have hKL1 : Kp L M1 b := (hK0.trans (Kp.app _ _)).trans hK1
  have ld4 := load4_rptr
  refine callFn_any rfl rfl at42 rfl (by simp [Tryd.f42]) (by simp [Tryd.f42]) (G_start ?_)
  by_cases hleaf : d = 0 ∨ k1 < 3
  · -- a number or a column
    have hleafG : ((d : Int) < 1) = True ∨ (((d : Int) < 1) = False ∧ (k1 < 3) = True) := by
      rcases hleaf with h | h
      · exact .inl (eq_true (by omega))
      · by_cases h0 : d = 0
        · exact .inl (eq_true (by omega))
        · exact .inr ⟨eq_false (by omega), eq_true h⟩
    by_cases hk1 : k1 = 1
    · have g1 : (k1 = 1) = True := eq_true hk1
      obtain ⟨k2, M2, hT2, hH2, hK2, hl2, p5, p6, _⟩ := take_at K hH1 12 (by simp [In64])
      have hp6 := p6 (by decide)
      have b52 := build52n 1 k2
      have fin : ∃ (e : Ex) (L' : List AObj) (ts' : List Nat), (⟨M2, ts⟩ : S) = ⟨L', ts'⟩ ∧ Has L' b xv xs ∧ Kp L L' b ∧ GN ts.length ts' (.row [.int .i64 1, .int .i64 k2, .str []] 1 .full) e.post ∧ Ext ts.length ts ts' ∧ WF cs e ∧ e.kind = 0 ∧ e.post.length ≤ bnd d :=
        ⟨.num k2, M2, ts, rfl, hH2, hKL1.trans hK2, GN.full _ _ [⟨1, k2, []⟩], .rfl' _ _, ⟨p5, by omega⟩, rfl, by have := bnd_pos d; simp [Ex.post]; omega⟩
      rcases hleafG with g0 | ⟨g0, g3⟩
      · simp -implicitDefEqProofs only [Tryd.f42,Wa,Wb,Wc,Wd,We,Wf,Wg,Wh,Wi,Wj,Wk,Wl,Wm,Wn,Zo,Zp,evalT,Nat.reduceLT,Nat.reduceEqDiff,if_true,if_false,reduceIte,Ys,ofVal,ofCell,argT,resT,setT,Y0,Int.reduceEq,Int.reduceLT,Int.reduceLE,Int.reduceNeg,mb,Nat.reduceBEq,tys,stb,Va,storeList,Nat.reduceAdd,Nat.reduceLeDiff,-Ys,hT0,hix,ld4,isCell_int,isCell_str,hwc,hT1,heap_end,set_end,g0,g1,hT2,b52,opT_rowO,rowN1]
        exact fin
      · simp -implicitDefEqProofs only [Tryd.f42,Wa,Wb,Wc,Wd,We,Wf,Wg,Wh,Wi,Wj,Wk,Wl,Wm,Wn,Zo,Zp,evalT,Nat.reduceLT,Nat.reduceEqDiff,if_true,if_false,reduceIte,Ys,ofVal,ofCell,argT,resT,setT,Y0,Int.reduceEq,Int.reduceLT,Int.reduceLE,Int.reduceNeg,mb,Nat.reduceBEq,tys,stb,Va,storeList,Nat.reduceAdd,Nat.reduceLeDiff,-Ys,hT0,hix,ld4,isCell_int,isCell_str,hwc,hT1,heap_end,set_end,g0,g3,g1,hT2,b52,opT_rowO,rowN1]
        exact fin
    · have g1 : (k1 = 1) = False := eq_false hk1
      have b52 := build52c c.name
      have fin : ∃ (e : Ex) (L' : List AObj) (ts' : List Nat), (⟨M1, ts⟩ : S) = ⟨L', ts'⟩ ∧ Has L' b xv xs ∧ Kp L L' b ∧ GN ts.length ts' (.row [.int .i64 2, .int .i64 0, .str c.name] 1 .full) e.post ∧ Ext ts.length ts ts' ∧ WF cs e ∧ e.kind = 0 ∧ e.post.length ≤ bnd d :=
        ⟨.col c.name, M1, ts, rfl, hH1, hKL1, GN.full _ _ [⟨2, 0, c.name⟩], .rfl' _ _, by unfold WF; rw [← hc]; exact seek_any hi, rfl, by have := bnd_pos d; simp [Ex.post]; omega⟩
      rcases hleafG with g0 | ⟨g0, g3⟩
      · simp -implicitDefEqProofs only [Tryd.f42,Wa,Wb,Wc,Wd,We,Wf,Wg,Wh,Wi,Wj,Wk,Wl,Wm,Wn,Zo,Zp,evalT,Nat.reduceLT,Nat.reduceEqDiff,if_true,if_false,reduceIte,Ys,ofVal,ofCell,argT,resT,setT,Y0,Int.reduceEq,Int.reduceLT,Int.reduceLE,Int.reduceNeg,mb,Nat.reduceBEq,tys,stb,Va,storeList,Nat.reduceAdd,Nat.reduceLeDiff,-Ys,hT0,hix,ld4,isCell_int,isCell_str,hwc,hT1,heap_end,set_end,g0,g1,hG1,b52,opT_rowO,rowN1]
        exact fin
      · simp -implicitDefEqProofs only [Tryd.f42,Wa,Wb,Wc,Wd,We,Wf,Wg,Wh,Wi,Wj,Wk,Wl,Wm,Wn,Zo,Zp,evalT,Nat.reduceLT,Nat.reduceEqDiff,if_true,if_false,reduceIte,Ys,ofVal,ofCell,argT,resT,setT,Y0,Int.reduceEq,Int.reduceLT,Int.reduceLE,Int.reduceNeg,mb,Nat.reduceBEq,tys,stb,Va,storeList,Nat.reduceAdd,Nat.reduceLeDiff,-Ys,hT0,hix,ld4,isCell_int,isCell_str,hwc,hT1,heap_end,set_end,g0,g3,g1,hG1,b52,opT_rowO,rowN1]
        exact fin
  -- deeper
  have hd0 : d ≠ 0 := fun h => hleaf (.inl h)
  obtain ⟨d', rfl⟩ : ∃ d', d = d' + 1 := ⟨d - 1, by omega⟩
  have g0 : (((d' + 1 : Nat) : Int) < 1) = False := eq_false (by omega)
  have g3 : (k1 < 3) = False := eq_false (fun h => hleaf (.inr h))
  have ed : IntKind.i64.wrap (((d' + 1 : Nat) : Int) - 1) = (d' : Int) := by rw [wrap_i64 (by omega) (by omega)]; omega
  have dO := ihO d' rfl
  have dC := ihC d' rfl
  have hbd := bnd_le (show d' ≤ 2 by omega)
  have hbs : bnd (d' + 1) = 3 * bnd d' + 1 := rfl
  obtain ⟨k3, M2, hT2, hH2, hK2, hl2, p5, p6, _⟩ := take_at K hH1 6 (by simp [In64])
  have hp6 := p6 (by decide)
  have hKL2 : Kp L M2 b := hKL1.trans hK2
  by_cases c012 : k3 = 0 ∨ k3 = 1 ∨ k3 = 2
  · obtain ⟨v1, L1, ts1, v2, L2, ts2, v3, ts3, e1, e2, r1, r2, r3, a1, a2, a3, a4, a5, a6, a7, a8, a9, a10, a11⟩ := draw2 dO dO (by omega) ts hH2
    have e5 : IntKind.i64.wrap (4 + k3) = 4 + k3 := wrap_i64 (by omega) (by omega)
    have b52 := build52o (4 + k3)
    obtain ⟨v4, ts4, r4, a12, a13⟩ := GN.push (hp := L2) a3 a5 (opN (4 + k3)) .full (by rw [List.length_append]; omega)
    simp only at r4
    have ho : 4 + k3 = 4 ∨ 4 + k3 = 5 ∨ 4 + k3 = 6 := by omega
    have fin : ∃ (e : Ex) (L' : List AObj) (ts' : List Nat), (⟨L2, ts4⟩ : S) = ⟨L', ts'⟩ ∧ Has L' b xv xs ∧ Kp L L' b ∧ GN ts.length ts' v4 e.post ∧ Ext ts.length ts ts' ∧ WF cs e ∧ e.kind = 0 ∧ e.post.length ≤ bnd (d' + 1) :=
      ⟨.bin (4 + k3) e1 e2, L2, ts4, rfl, a1, hKL2.trans a2, by simp only [Ex.post]; rw [← List.append_assoc]; exact a12, a4.trans a13, ⟨a6, a7, ⟨by omega, by omega, by omega, by omega⟩, by rw [a8, a9]; rcases ho with h | h | h <;> rw [h] <;> rfl⟩, by unfold Ex.kind; rcases ho with h | h | h <;> rw [h] <;> rfl, by simp only [Ex.post, List.length_append, List.length_cons, List.length_nil]; omega⟩
    rcases c012 with rfl | rfl | rfl
    all_goals
      simp -implicitDefEqProofs only [Tryd.f42,Wa,Wb,Wc,Wd,We,Wf,Wg,Wh,Wi,Wj,Wk,Wl,Wm,Wn,Zo,Zp,evalT,Nat.reduceLT,Nat.reduceEqDiff,if_true,if_false,reduceIte,Ys,ofVal,ofCell,argT,resT,setT,Y0,Int.reduceEq,Int.reduceLT,Int.reduceLE,Int.reduceNeg,mb,Nat.reduceBEq,tys,stb,Va,storeList,Nat.reduceAdd,Nat.reduceLeDiff,-Ys,hT0,hix,ld4,isCell_int,isCell_str,hwc,hT1,heap_end,set_end,g0,g3,hT2,ed,r1,r2,r3,e5,b52,opT_rowO,rowN1,r4]
      exact fin
  have n0 : (k3 = 0) = False := eq_false (by omega)
  have n1 : (k3 = 1) = False := eq_false (by omega)
  have n2 : (k3 = 2) = False := eq_false (by omega)
  by_cases c3 : k3 = 3
  · have n3 : (k3 = 3) = True := eq_true c3
    obtain ⟨v1, _, r1, e1, L1, ts1, rfl, a1, a2, a3, a4, a6, a8, a10⟩ := dO M2 b ts hH2
    have b52 := build52o 7
    obtain ⟨v4, ts4, r4, a12, a13⟩ := GN.push (hp := L1) a3 a4.1 (opN 7) .full (by omega)
    simp only at r4
    simp -implicitDefEqProofs only [Tryd.f42,Wa,Wb,Wc,Wd,We,Wf,Wg,Wh,Wi,Wj,Wk,Wl,Wm,Wn,Zo,Zp,evalT,Nat.reduceLT,Nat.reduceEqDiff,if_true,if_false,reduceIte,Ys,ofVal,ofCell,argT,resT,setT,Y0,Int.reduceEq,Int.reduceLT,Int.reduceLE,Int.reduceNeg,mb,Nat.reduceBEq,tys,stb,Va,storeList,Nat.reduceAdd,Nat.reduceLeDiff,-Ys,hT0,hix,ld4,isCell_int,isCell_str,hwc,hT1,heap_end,set_end,g0,g3,n0,n1,n2,n3,hT2,ed,r1,b52,opT_rowO,rowN1,r4]
    exact ⟨.una 7 e1, L1, ts4, rfl, a1, hKL2.trans a2, a12, a4.trans a13, ⟨a6, .inl rfl, by rw [a8]; rfl⟩, rfl, by simp only [Ex.post, List.length_append, List.length_cons, List.length_nil]; omega⟩
  have n3 : (k3 = 3) = False := eq_false c3
  by_cases c4 : k3 = 4
  · have n4 : (k3 = 4) = True := eq_true c4
    obtain ⟨k4, M3, hT3, hH3, hK3, hl3, p7, p8, _⟩ := take_at K hH2 5 (by simp [In64])
    have hp8 := p8 (by decide)
    obtain ⟨nn, rr2, z1, z2, hin⟩ := idx_nums p7 hp8
    have b52 := build52n 1 nn
    simp -implicitDefEqProofs only [Tryd.f42,Wa,Wb,Wc,Wd,We,Wf,Wg,Wh,Wi,Wj,Wk,Wl,Wm,Wn,Zo,Zp,evalT,Nat.reduceLT,Nat.reduceEqDiff,if_true,if_false,reduceIte,Ys,ofVal,ofCell,argT,resT,setT,Y0,Int.reduceEq,Int.reduceLT,Int.reduceLE,Int.reduceNeg,mb,Nat.reduceBEq,tys,stb,Va,storeList,Nat.reduceAdd,Nat.reduceLeDiff,-Ys,hT0,hix,ld4,isCell_int,isCell_str,hwc,hT1,heap_end,set_end,g0,g3,n0,n1,n2,n3,n4,hT2,hT3,opT_rowO,rowI5,hin,load_hd,b52,rowN1]
    exact ⟨.num nn, M3, ts, rfl, hH3, hKL2.trans hK3, GN.full _ _ [⟨1, nn, []⟩], .rfl' _ _, ⟨z1, z2⟩, rfl, by simp [Ex.post]; omega⟩
  have n4 : (k3 = 4) = False := eq_false c4
  obtain ⟨v1, L1, ts1, v2, L2, ts2, v3, ts3, e1, e2, r1, r2, r3, a1, a2, a3, a4, a5, a6, a7, a8, a9, a10, a11⟩ := draw2 dC dO (by omega) ts hH2
  obtain ⟨w1, _, s1, e3, L3, ts4, rfl, b1, b2, b3, b4, b5, b6, b7⟩ := dO L2 b ts3 a1
  have b52 := build52o 8
  obtain ⟨w2, ts5, s2, b8, b9⟩ := GN.append (hp := L3) (a3.ext b4) (Nat.le_trans a5 b4.1) b3.vlen (b3.vcells L3) (by rw [List.length_append]; omega) (by omega)
  obtain ⟨w3, ts6, s3, b10, b11⟩ := GN.push (hp := L3) b8 (Nat.le_trans (Nat.le_trans a5 b4.1) b9.1) (opN 8) .full (by rw [List.length_append, List.length_append]; omega)
  simp only at s3
  simp -implicitDefEqProofs only [Tryd.f42,Wa,Wb,Wc,Wd,We,Wf,Wg,Wh,Wi,Wj,Wk,Wl,Wm,Wn,Zo,Zp,evalT,Nat.reduceLT,Nat.reduceEqDiff,if_true,if_false,reduceIte,Ys,ofVal,ofCell,argT,resT,setT,Y0,Int.reduceEq,Int.reduceLT,Int.reduceLE,Int.reduceNeg,mb,Nat.reduceBEq,tys,stb,Va,storeList,Nat.reduceAdd,Nat.reduceLeDiff,-Ys,hT0,hix,ld4,isCell_int,isCell_str,hwc,hT1,heap_end,set_end,g0,g3,n0,n1,n2,n3,n4,hT2,ed,r1,r2,r3,s1,s2,b52,opT_rowO,rowN1,s3]
  exact ⟨.ite e1 e2 e3, L3, ts6, rfl, b1, (hKL2.trans a2).trans b2, by simp only [Ex.post]; rw [← List.append_assoc, ← List.append_assoc]; exact b10, ((a4.trans (b4.mono a5)).trans b9).trans b11, ⟨a6, a7, b5, a8, a9, b6⟩, rfl, by simp only [Ex.post, List.length_append, List.length_cons, List.length_nil]; omega⟩
end
end Go.Proofs.YtcjapamldllleaaDoor.N
namespace Go.Proofs.YtcjapamldllleaaDoor.N
open Go.Ab
set_option maxHeartbeats 4000000
set_option maxHeartbeats 4000000
set_option maxRecDepth 100000
set_option linter.unusedSimpArgs false
set_option linter.unusedVariables false
set_option linter.unusedSectionVars false
theorem len_W' {w : V} {ws : List (List UInt8)} (h : IsW w ws) (e : TypeId) : vLenT (some (.slice e)) w = some (.int .i64 ws.length) := by rcases h with ⟨rfl, rfl⟩ | rfl <;> simp [vLenT]
theorem idx_W' {w : V} {ws : List (List UInt8)} (h : IsW w ws) {i : Nat} (hi : i < ws.length) : ∃ r, vIndexAddr 1 w (.int .i64 i) = some (.rptr (.str (ws.getD i []) :: r)) := by
  rcases h with ⟨rfl, rfl⟩ | rfl
  · simp at hi
  · refine ⟨(ws.map V.str).drop (i + 1), ?_⟩
    rw [Ys, if_pos (by omega), Int.toNat_natCast, Nat.mul_one, List.drop_eq_getElem_cons (by simpa using hi)]
    simp [List.getD, hi]
theorem at20 : env.P.funcs[20]? = some Tryd.f20 := by kernel_rfl
theorem takes_cmp {op : Int} (h1 : 9 ≤ op) (h2 : op ≤ 14) : takesN op = ([0, 0], 1) := by
  have : op = 9 ∨ op = 10 ∨ op = 11 ∨ op = 12 ∨ op = 13 ∨ op = 14 := by omega
  rcases this with rfl | rfl | rfl | rfl | rfl | rfl <;> rfl
theorem tmod2' {x : Int} (h : 0 ≤ x) : Int.tmod x 2 = x % 2 := Int.tmod_eq_emod_of_nonneg h
section
variable {xv : V} {xs : List Int} (K : Tk xv xs) {cs : List Col} (q : RCap) (ok : OkC cs) (h1 : 1 ≤ cs.length) (h2 : cs.length ≤ 1000) (hws : ∀ i, i < cs.length → (cs.getD i Col.none).ws.length ≤ 1000)
include K ok h1 h2 hws
open Classical in
theorem condition_step (d : Nat) (hd : d ≤ 3) (ihO : ∀ d', d = d' + 1 → Draws 42 0 xv xs cs q d') (ihC : ∀ d', d = d' + 1 → Draws 21 1 xv xs cs q d') : Draws 21 1 xv xs cs q d := by
  intro L b ts hH
  have hbl := hH.lt
  obtain ⟨k0, M0, hT0, hH0, hK0, hl0, p1, p2, _⟩ := take_at K hH (cs.length : Int) (by unfold In64; omega)
  have hp2 := p2 (by omega)
  obtain ⟨i, hi⟩ : ∃ i : Nat, k0 = (i : Int) := ⟨k0.toNat, by omega⟩
  subst hi
  have hi : i < cs.length := by omega
  obtain ⟨k1, M1, hT1, hH1, hK1, hl1, p3, p4, _⟩ := take_at K hH0 8 (by simp [In64])
  have hp4 := p4 (by decide)
  have hKL1 : Kp L M1 b := hK0.trans hK1
  refine callFn_any rfl rfl at21 rfl (by simp [Tryd.f21]) (by simp [Tryd.f21]) (G_start ?_)
  by_cases hleaf : d = 0 ∨ k1 < 3
  · have hleafG : ((d : Int) < 1) = True ∨ (((d : Int) < 1) = False ∧ (k1 < 3) = True) := by
      rcases hleaf with h | h
      · exact .inl (eq_true (by omega))
      · by_cases h0 : d = 0
        · exact .inl (eq_true (by omega))
        · exact .inr ⟨eq_false (by omega), eq_true h⟩
    obtain ⟨rr, hix⟩ := idx_C' cs q hi
    have hW := ok.at hi
    have hwc := isCell_W hW
    have hll := len_W' hW
    have hF := first_call cs ok q i hi h2
    have hsk := seek_any hi
    have hfc := fun h : IsFirst cs i => first_col hi h
    generalize hc : cs.getD i Col.none = c at *
    obtain ⟨k2, M2, hT2, hH2, hK2, hl2, p5, p6, _⟩ := take_at K (hH1.app [AObj.cells [V.str c.name, V.int .i64 c.lo, V.int .i64 c.hi, c.w] 46]) 6 (by simp [In64])
    have hp6 := p6 (by decide)
    have e5 : IntKind.i64.wrap (9 + k2) = 9 + k2 := wrap_i64 (by omega) (by omega)
    have b52 := build52o (9 + k2)
    have hG2 : M2[M1.length]? = some (.cells [V.str c.name, V.int .i64 c.lo, V.int .i64 c.hi, c.w] 46) := by rw [hK2.2 _ (by simp) (by have := hH1.lt; omega)]; exact heap_end _ _
    have hG3 : ∀ o : AObj, (M2 ++ [o])[M1.length]? = some (.cells [V.str c.name, V.int .i64 c.lo, V.int .i64 c.hi, c.w] 46) := fun o => by rw [List.getElem?_append_left (List.getElem?_eq_some_iff.1 hG2).1]; exact hG2
    have hKL2 : Kp L M2 b := (hKL1.trans (Kp.app _ _)).trans hK2
    have ld4 := load4_rptr
    by_cases hwd : 0 < c.ws.length ∧ IsFirst cs i ∧ k1 ≠ 1
    · obtain ⟨hw1, hw2, hw3⟩ := hwd
      have gw : ((c.ws.length : Int) > 0) = True := eq_true (by omega)
      have gk : (k1 = 1) = False := eq_false hw3
      rw [decide_eq_true hw2] at hF
      have et : Int.tmod (9 + k2) 2 = (9 + k2) % 2 := tmod2' (by omega)
      obtain ⟨op, hop⟩ : ∃ op, op = 9 + (9 + k2) % 2 := ⟨_, rfl⟩
      have e6 : IntKind.i64.wrap (9 + (9 + k2) % 2) = op := by rw [hop]; exact wrap_i64 (by omega) (by omega)
      have hop2 : op = 9 ∨ op = 10 := by omega
      obtain ⟨k3, M3, hT3, hH3, hK3, hl3, p7, p8, _⟩ := take_at K (hH2.app [AObj.cells [V.int .i64 op, V.int .i64 0, V.str []] 52]) (c.ws.length : Int) (by unfold In64; have := hws i hi; rw [hc] at this; omega)
      have hp8 := p8 (by omega)
      obtain ⟨j, hj⟩ : ∃ j : Nat, k3 = (j : Int) := ⟨k3.toNat, by omega⟩
      subst hj
      have hj : j < c.ws.length := by omega
      obtain ⟨rj, hixj⟩ := idx_W' hW hj
      have hG4 : M3[M1.length]? = some (.cells [V.str c.name, V.int .i64 c.lo, V.int .i64 c.hi, c.w] 46) := by rw [hK3.2 _ (by have := (List.getElem?_eq_some_iff.1 hG2).1; simp; omega) (by have := hH1.lt; omega)]; exact hG3 _
      have hG5 : M3[M2.length]? = some (.cells [V.int .i64 op, V.int .i64 0, V.str []] 52) := by rw [hK3.2 _ (by simp) (by have := hH2.lt; omega)]; exact heap_end _ _
      have b52a := build52c c.name
      have b52b : buildO env 52 [(0, .int .i64 3), (2, .str (c.ws.getD j []))] = some (.agg [.int .i64 3, .int .i64 0, .str (c.ws.getD j [])]) := by kernel_rfl
      have hld := load3_ptr hG5
      have hld0 : loadCellsV (M2 ++ [AObj.cells [V.int .i64 op, V.int .i64 0, V.str []] 52]) 3 (.ptr M2.length 0) = some [V.int .i64 op, V.int .i64 0, V.str []] := load3_ptr (heap_end _ _)
      have fin : ∃ (e : Ex) (L' : List AObj) (ts' : List Nat), (⟨M3, ts⟩ : S) = ⟨L', ts'⟩ ∧ Has L' b xv xs ∧ Kp L L' b ∧ GN ts.length ts' (.row [.int .i64 2, .int .i64 0, .str c.name, .int .i64 3, .int .i64 0, .str (c.ws.getD j []), .int .i64 op, .int .i64 0, .str []] 3 .full) e.post ∧ Ext ts.length ts ts' ∧ WF cs e ∧ e.kind = 1 ∧ e.post.length ≤ bnd d :=
        ⟨.wrd c.name (c.ws.getD j []) op, M3, ts, rfl, hH3, (hKL2.trans (Kp.app _ _)).trans hK3, GN.full _ _ [⟨2, 0, c.name⟩, ⟨3, 0, c.ws.getD j []⟩, ⟨op, 0, []⟩], .rfl' _ _, ⟨hsk, by rw [hfc hw2]; simp [List.getD, hj], hop2⟩, rfl, bnd_pos d⟩
      rcases hleafG with g0 | ⟨g0, g3⟩
      · simp -implicitDefEqProofs only [Tryd.f21,Wa,Wb,Wc,Wd,We,Wf,Wg,Wh,Wi,Wj,Wk,Wl,Wm,Wn,Zo,Zp,evalT,Nat.reduceLT,Nat.reduceEqDiff,if_true,if_false,reduceIte,Ys,ofVal,ofCell,argT,resT,setT,Y0,Int.reduceEq,Int.reduceLT,Int.reduceLE,Int.reduceNeg,mb,Nat.reduceBEq,tys,stb,Va,storeList,Nat.reduceAdd,Nat.reduceLeDiff,-Ys,hT0,hix,ld4,isCell_int,isCell_str,hwc,hT1,heap_end,set_end,g0,hT2,e5,b52,hG3,hll,gw,hF,gk,et,e6]
        refine G_stab rfl (fun s => s.heap[M1.length]? = some (.cells [V.str c.name, V.int .i64 c.lo, V.int .i64 c.hi, c.w] 46) ∧ s.heap[M2.length]? = some (.cells [V.int .i64 op, V.int .i64 0, V.str []] 52)) ⟨hG3 _, heap_end _ _⟩ (by kernel_rfl) ?_
        simp -implicitDefEqProofs only [Wa,Wb,Wc,Wd,We,Wf,Wg,Wh,Wi,Wj,Wk,Wl,Wm,Wn,Zo,Zp,evalT,Nat.reduceLT,Nat.reduceEqDiff,if_true,if_false,reduceIte,Ys,ofVal,ofCell,argT,resT,setT,Y0,Int.reduceEq,Int.reduceLT,Int.reduceLE,Int.reduceNeg,mb,Nat.reduceBEq,tys,stb,Va,storeList,Nat.reduceAdd,Nat.reduceLeDiff,-Ys,isCell_int,isCell_str,hwc,heap_end,set_end,hG3,hll,hT3,hixj,load_hd,b52a,b52b,hld,opT_rowO,rowN3,sc_take,sc_load,sc_move,sc_indexAddr,sc_fieldAddr,rd_fieldAddr,sc_build',rd_build',rd_bs,sc_binOp,rd_binOp,sc_assign,rd_assign,sc_store,rd_store,rd_load,rd_move,rd_indexAddr,rd_call,aread_load]
        exact ⟨fun s h => by rw [h.1]; rfl, fun s h => by rw [h.1]; rfl, fun s h => by rw [h.1]; rfl, fun _ => trivial, ⟨hG4, hG5⟩, fun _ _ => trivial, fun s h => by rw [load3_ptr h.2]; rfl, fun _ => ⟨hG4, hG5⟩, fin⟩
      · simp -implicitDefEqProofs only [Tryd.f21,Wa,Wb,Wc,Wd,We,Wf,Wg,Wh,Wi,Wj,Wk,Wl,Wm,Wn,Zo,Zp,evalT,Nat.reduceLT,Nat.reduceEqDiff,if_true,if_false,reduceIte,Ys,ofVal,ofCell,argT,resT,setT,Y0,Int.reduceEq,Int.reduceLT,Int.reduceLE,Int.reduceNeg,mb,Nat.reduceBEq,tys,stb,Va,storeList,Nat.reduceAdd,Nat.reduceLeDiff,-Ys,hT0,hix,ld4,isCell_int,isCell_str,hwc,hT1,heap_end,set_end,g0,g3,hT2,e5,b52,hG3,hll,gw,hF,gk,et,e6]
        refine G_stab rfl (fun s => s.heap[M1.length]? = some (.cells [V.str c.name, V.int .i64 c.lo, V.int .i64 c.hi, c.w] 46) ∧ s.heap[M2.length]? = some (.cells [V.int .i64 op, V.int .i64 0, V.str []] 52)) ⟨hG3 _, heap_end _ _⟩ (by kernel_rfl) ?_
        simp -implicitDefEqProofs only [Wa,Wb,Wc,Wd,We,Wf,Wg,Wh,Wi,Wj,Wk,Wl,Wm,Wn,Zo,Zp,evalT,Nat.reduceLT,Nat.reduceEqDiff,if_true,if_false,reduceIte,Ys,ofVal,ofCell,argT,resT,setT,Y0,Int.reduceEq,Int.reduceLT,Int.reduceLE,Int.reduceNeg,mb,Nat.reduceBEq,tys,stb,Va,storeList,Nat.reduceAdd,Nat.reduceLeDiff,-Ys,isCell_int,isCell_str,hwc,heap_end,set_end,hG3,hll,hT3,hixj,load_hd,b52a,b52b,hld,opT_rowO,rowN3,sc_take,sc_load,sc_move,sc_indexAddr,sc_fieldAddr,rd_fieldAddr,sc_build',rd_build',rd_bs,sc_binOp,rd_binOp,sc_assign,rd_assign,sc_store,rd_store,rd_load,rd_move,rd_indexAddr,rd_call,aread_load]
        exact ⟨fun s h => by rw [h.1]; rfl, fun s h => by rw [h.1]; rfl, fun s h => by rw [h.1]; rfl, fun _ => trivial, ⟨hG4, hG5⟩, fun _ _ => trivial, fun s h => by rw [load3_ptr h.2]; rfl, fun _ => ⟨hG4, hG5⟩, fin⟩
    · obtain ⟨k3, M3, hT3, hH3, hK3, hl3, p7, p8, _⟩ := take_at K (hH2.app [AObj.cells [V.int .i64 (9 + k2), V.int .i64 0, V.str []] 52]) 9 (by simp [In64])
      have hp8 := p8 (by omega)
      have hG4 : M3[M1.length]? = some (.cells [V.str c.name, V.int .i64 c.lo, V.int .i64 c.hi, c.w] 46) := by rw [hK3.2 _ (by have := (List.getElem?_eq_some_iff.1 hG2).1; simp; omega) (by have := hH1.lt; omega)]; exact hG3 _
      have hG5 : M3[M2.length]? = some (.cells [V.int .i64 (9 + k2), V.int .i64 0, V.str []] 52) := by rw [hK3.2 _ (by simp) (by have := hH2.lt; omega)]; exact heap_end _ _
      have b52a := build52c c.name
      have b52b := build52n 1 k3
      have hld := load3_ptr hG5
      have htk := takes_cmp (op := 9 + k2) (by omega) (by omega)
      have fin : ∃ (e : Ex) (L' : List AObj) (ts' : List Nat), (⟨M3, ts⟩ : S) = ⟨L', ts'⟩ ∧ Has L' b xv xs ∧ Kp L L' b ∧ GN ts.length ts' (.row [.int .i64 2, .int .i64 0, .str c.name, .int .i64 1, .int .i64 k3, .str [], .int .i64 (9 + k2), .int .i64 0, .str []] 3 .full) e.post ∧ Ext ts.length ts ts' ∧ WF cs e ∧ e.kind = 1 ∧ e.post.length ≤ bnd d :=
        ⟨.bin (9 + k2) (.col c.name) (.num k3), M3, ts, rfl, hH3, (hKL2.trans (Kp.app _ _)).trans hK3, GN.full _ _ [⟨2, 0, c.name⟩, ⟨1, k3, []⟩, ⟨9 + k2, 0, []⟩], .rfl' _ _, ⟨hsk, ⟨p7, by omega⟩, ⟨by omega, by omega, by omega, by omega⟩, by rw [htk]; rfl⟩, by show (takesN (9 + k2)).2 = 1; rw [htk], bnd_pos d⟩
      by_cases w1 : 0 < c.ws.length
      · have gw : ((c.ws.length : Int) > 0) = True := eq_true (by omega)
        by_cases w2 : IsFirst cs i
        · have gk : (k1 = 1) = True := eq_true (Classical.byContradiction fun h => hwd ⟨w1, w2, h⟩)
          rw [decide_eq_true w2] at hF
          rcases hleafG with g0 | ⟨g0, g3⟩
          · simp -implicitDefEqProofs only [Tryd.f21,Wa,Wb,Wc,Wd,We,Wf,Wg,Wh,Wi,Wj,Wk,Wl,Wm,Wn,Zo,Zp,evalT,Nat.reduceLT,Nat.reduceEqDiff,if_true,if_false,reduceIte,Ys,ofVal,ofCell,argT,resT,setT,Y0,Int.reduceEq,Int.reduceLT,Int.reduceLE,Int.reduceNeg,mb,Nat.reduceBEq,tys,stb,Va,storeList,Nat.reduceAdd,Nat.reduceLeDiff,-Ys,hT0,hix,ld4,isCell_int,isCell_str,hwc,hT1,heap_end,set_end,g0,hT2,e5,b52,hG3,hll,gw,hF,gk]
            refine G_stab rfl (fun s => s.heap[M1.length]? = some (.cells [V.str c.name, V.int .i64 c.lo, V.int .i64 c.hi, c.w] 46) ∧ s.heap[M2.length]? = some (.cells [V.int .i64 (9 + k2), V.int .i64 0, V.str []] 52)) ⟨hG3 _, heap_end _ _⟩ (by kernel_rfl) ?_
            simp -implicitDefEqProofs only [Wa,Wb,Wc,Wd,We,Wf,Wg,Wh,Wi,Wj,Wk,Wl,Wm,Wn,Zo,Zp,evalT,Nat.reduceLT,Nat.reduceEqDiff,if_true,if_false,reduceIte,Ys,ofVal,ofCell,argT,resT,setT,Y0,Int.reduceEq,Int.reduceLT,Int.reduceLE,Int.reduceNeg,mb,Nat.reduceBEq,tys,stb,Va,storeList,Nat.reduceAdd,Nat.reduceLeDiff,-Ys,isCell_int,isCell_str,hwc,heap_end,set_end,hG3,hll,hT3,load_hd,b52a,b52b,hld,opT_rowO,rowN3,sc_take,sc_load,sc_move,sc_indexAddr,sc_fieldAddr,rd_fieldAddr,sc_build',rd_build',rd_bs,sc_binOp,rd_binOp,sc_assign,rd_assign,sc_store,rd_store,rd_load,rd_move,rd_indexAddr,rd_call,aread_load]
            exact ⟨fun s h => by rw [h.1]; rfl, ⟨hG4, hG5⟩, fun s h => by rw [load3_ptr h.2]; rfl, fun _ => ⟨hG4, hG5⟩, fin⟩
          · simp -implicitDefEqProofs only [Tryd.f21,Wa,Wb,Wc,Wd,We,Wf,Wg,Wh,Wi,Wj,Wk,Wl,Wm,Wn,Zo,Zp,evalT,Nat.reduceLT,Nat.reduceEqDiff,if_true,if_false,reduceIte,Ys,ofVal,ofCell,argT,resT,setT,Y0,Int.reduceEq,Int.reduceLT,Int.reduceLE,Int.reduceNeg,mb,Nat.reduceBEq,tys,stb,Va,storeList,Nat.reduceAdd,Nat.reduceLeDiff,-Ys,hT0,hix,ld4,isCell_int,isCell_str,hwc,hT1,heap_end,set_end,g0,g3,hT2,e5,b52,hG3,hll,gw,hF,gk]
            refine G_stab rfl (fun s => s.heap[M1.length]? = some (.cells [V.str c.name, V.int .i64 c.lo, V.int .i64 c.hi, c.w] 46) ∧ s.heap[M2.length]? = some (.cells [V.int .i64 (9 + k2), V.int .i64 0, V.str []] 52)) ⟨hG3 _, heap_end _ _⟩ (by kernel_rfl) ?_
            simp -implicitDefEqProofs only [Wa,Wb,Wc,Wd,We,Wf,Wg,Wh,Wi,Wj,Wk,Wl,Wm,Wn,Zo,Zp,evalT,Nat.reduceLT,Nat.reduceEqDiff,if_true,if_false,reduceIte,Ys,ofVal,ofCell,argT,resT,setT,Y0,Int.reduceEq,Int.reduceLT,Int.reduceLE,Int.reduceNeg,mb,Nat.reduceBEq,tys,stb,Va,storeList,Nat.reduceAdd,Nat.reduceLeDiff,-Ys,isCell_int,isCell_str,hwc,heap_end,set_end,hG3,hll,hT3,load_hd,b52a,b52b,hld,opT_rowO,rowN3,sc_take,sc_load,sc_move,sc_indexAddr,sc_fieldAddr,rd_fieldAddr,sc_build',rd_build',rd_bs,sc_binOp,rd_binOp,sc_assign,rd_assign,sc_store,rd_store,rd_load,rd_move,rd_indexAddr,rd_call,aread_load]
            exact ⟨fun s h => by rw [h.1]; rfl, ⟨hG4, hG5⟩, fun s h => by rw [load3_ptr h.2]; rfl, fun _ => ⟨hG4, hG5⟩, fin⟩
        · rw [decide_eq_false w2] at hF
          rcases hleafG with g0 | ⟨g0, g3⟩
          · simp -implicitDefEqProofs only [Tryd.f21,Wa,Wb,Wc,Wd,We,Wf,Wg,Wh,Wi,Wj,Wk,Wl,Wm,Wn,Zo,Zp,evalT,Nat.reduceLT,Nat.reduceEqDiff,if_true,if_false,reduceIte,Ys,ofVal,ofCell,argT,resT,setT,Y0,Int.reduceEq,Int.reduceLT,Int.reduceLE,Int.reduceNeg,mb,Nat.reduceBEq,tys,stb,Va,storeList,Nat.reduceAdd,Nat.reduceLeDiff,-Ys,hT0,hix,ld4,isCell_int,isCell_str,hwc,hT1,heap_end,set_end,g0,hT2,e5,b52,hG3,hll,gw,hF]
            refine G_stab rfl (fun s => s.heap[M1.length]? = some (.cells [V.str c.name, V.int .i64 c.lo, V.int .i64 c.hi, c.w] 46) ∧ s.heap[M2.length]? = some (.cells [V.int .i64 (9 + k2), V.int .i64 0, V.str []] 52)) ⟨hG3 _, heap_end _ _⟩ (by kernel_rfl) ?_
            simp -implicitDefEqProofs only [Wa,Wb,Wc,Wd,We,Wf,Wg,Wh,Wi,Wj,Wk,Wl,Wm,Wn,Zo,Zp,evalT,Nat.reduceLT,Nat.reduceEqDiff,if_true,if_false,reduceIte,Ys,ofVal,ofCell,argT,resT,setT,Y0,Int.reduceEq,Int.reduceLT,Int.reduceLE,Int.reduceNeg,mb,Nat.reduceBEq,tys,stb,Va,storeList,Nat.reduceAdd,Nat.reduceLeDiff,-Ys,isCell_int,isCell_str,hwc,heap_end,set_end,hG3,hll,hT3,load_hd,b52a,b52b,hld,opT_rowO,rowN3,sc_take,sc_load,sc_move,sc_indexAddr,sc_fieldAddr,rd_fieldAddr,sc_build',rd_build',rd_bs,sc_binOp,rd_binOp,sc_assign,rd_assign,sc_store,rd_store,rd_load,rd_move,rd_indexAddr,rd_call,aread_load]
            exact ⟨fun s h => by rw [h.1]; rfl, ⟨hG4, hG5⟩, fun s h => by rw [load3_ptr h.2]; rfl, fun _ => ⟨hG4, hG5⟩, fin⟩
          · simp -implicitDefEqProofs only [Tryd.f21,Wa,Wb,Wc,Wd,We,Wf,Wg,Wh,Wi,Wj,Wk,Wl,Wm,Wn,Zo,Zp,evalT,Nat.reduceLT,Nat.reduceEqDiff,if_true,if_false,reduceIte,Ys,ofVal,ofCell,argT,resT,setT,Y0,Int.reduceEq,Int.reduceLT,Int.reduceLE,Int.reduceNeg,mb,Nat.reduceBEq,tys,stb,Va,storeList,Nat.reduceAdd,Nat.reduceLeDiff,-Ys,hT0,hix,ld4,isCell_int,isCell_str,hwc,hT1,heap_end,set_end,g0,g3,hT2,e5,b52,hG3,hll,gw,hF]
            refine G_stab rfl (fun s => s.heap[M1.length]? = some (.cells [V.str c.name, V.int .i64 c.lo, V.int .i64 c.hi, c.w] 46) ∧ s.heap[M2.length]? = some (.cells [V.int .i64 (9 + k2), V.int .i64 0, V.str []] 52)) ⟨hG3 _, heap_end _ _⟩ (by kernel_rfl) ?_
            simp -implicitDefEqProofs only [Wa,Wb,Wc,Wd,We,Wf,Wg,Wh,Wi,Wj,Wk,Wl,Wm,Wn,Zo,Zp,evalT,Nat.reduceLT,Nat.reduceEqDiff,if_true,if_false,reduceIte,Ys,ofVal,ofCell,argT,resT,setT,Y0,Int.reduceEq,Int.reduceLT,Int.reduceLE,Int.reduceNeg,mb,Nat.reduceBEq,tys,stb,Va,storeList,Nat.reduceAdd,Nat.reduceLeDiff,-Ys,isCell_int,isCell_str,hwc,heap_end,set_end,hG3,hll,hT3,load_hd,b52a,b52b,hld,opT_rowO,rowN3,sc_take,sc_load,sc_move,sc_indexAddr,sc_fieldAddr,rd_fieldAddr,sc_build',rd_build',rd_bs,sc_binOp,rd_binOp,sc_assign,rd_assign,sc_store,rd_store,rd_load,rd_move,rd_indexAddr,rd_call,aread_load]
            exact ⟨fun s h => by rw [h.1]; rfl, ⟨hG4, hG5⟩, fun s h => by rw [load3_ptr h.2]; rfl, fun _ => ⟨hG4, hG5⟩, fin⟩
      · have gw : ((c.ws.length : Int) > 0) = False := eq_false (by omega)
        rcases hleafG with g0 | ⟨g0, g3⟩
        · simp -implicitDefEqProofs only [Tryd.f21,Wa,Wb,Wc,Wd,We,Wf,Wg,Wh,Wi,Wj,Wk,Wl,Wm,Wn,Zo,Zp,evalT,Nat.reduceLT,Nat.reduceEqDiff,if_true,if_false,reduceIte,Ys,ofVal,ofCell,argT,resT,setT,Y0,Int.reduceEq,Int.reduceLT,Int.reduceLE,Int.reduceNeg,mb,Nat.reduceBEq,tys,stb,Va,storeList,Nat.reduceAdd,Nat.reduceLeDiff,-Ys,hT0,hix,ld4,isCell_int,isCell_str,hwc,hT1,heap_end,set_end,g0,hT2,e5,b52,hG3,hll,gw]
          refine G_stab rfl (fun s => s.heap[M1.length]? = some (.cells [V.str c.name, V.int .i64 c.lo, V.int .i64 c.hi, c.w] 46) ∧ s.heap[M2.length]? = some (.cells [V.int .i64 (9 + k2), V.int .i64 0, V.str []] 52)) ⟨hG3 _, heap_end _ _⟩ (by kernel_rfl) ?_
          simp -implicitDefEqProofs only [Wa,Wb,Wc,Wd,We,Wf,Wg,Wh,Wi,Wj,Wk,Wl,Wm,Wn,Zo,Zp,evalT,Nat.reduceLT,Nat.reduceEqDiff,if_true,if_false,reduceIte,Ys,ofVal,ofCell,argT,resT,setT,Y0,Int.reduceEq,Int.reduceLT,Int.reduceLE,Int.reduceNeg,mb,Nat.reduceBEq,tys,stb,Va,storeList,Nat.reduceAdd,Nat.reduceLeDiff,-Ys,isCell_int,isCell_str,hwc,heap_end,set_end,hG3,hll,hT3,load_hd,b52a,b52b,hld,opT_rowO,rowN3,sc_take,sc_load,sc_move,sc_indexAddr,sc_fieldAddr,rd_fieldAddr,sc_build',rd_build',rd_bs,sc_binOp,rd_binOp,sc_assign,rd_assign,sc_store,rd_store,rd_load,rd_move,rd_indexAddr,rd_call,aread_load]
          exact ⟨fun s h => by rw [h.1]; rfl, ⟨hG4, hG5⟩, fun s h => by rw [load3_ptr h.2]; rfl, fun _ => ⟨hG4, hG5⟩, fin⟩
        · simp -implicitDefEqProofs only [Tryd.f21,Wa,Wb,Wc,Wd,We,Wf,Wg,Wh,Wi,Wj,Wk,Wl,Wm,Wn,Zo,Zp,evalT,Nat.reduceLT,Nat.reduceEqDiff,if_true,if_false,reduceIte,Ys,ofVal,ofCell,argT,resT,setT,Y0,Int.reduceEq,Int.reduceLT,Int.reduceLE,Int.reduceNeg,mb,Nat.reduceBEq,tys,stb,Va,storeList,Nat.reduceAdd,Nat.reduceLeDiff,-Ys,hT0,hix,ld4,isCell_int,isCell_str,hwc,hT1,heap_end,set_end,g0,g3,hT2,e5,b52,hG3,hll,gw]
          refine G_stab rfl (fun s => s.heap[M1.length]? = some (.cells [V.str c.name, V.int .i64 c.lo, V.int .i64 c.hi, c.w] 46) ∧ s.heap[M2.length]? = some (.cells [V.int .i64 (9 + k2), V.int .i64 0, V.str []] 52)) ⟨hG3 _, heap_end _ _⟩ (by kernel_rfl) ?_
          simp -implicitDefEqProofs only [Wa,Wb,Wc,Wd,We,Wf,Wg,Wh,Wi,Wj,Wk,Wl,Wm,Wn,Zo,Zp,evalT,Nat.reduceLT,Nat.reduceEqDiff,if_true,if_false,reduceIte,Ys,ofVal,ofCell,argT,resT,setT,Y0,Int.reduceEq,Int.reduceLT,Int.reduceLE,Int.reduceNeg,mb,Nat.reduceBEq,tys,stb,Va,storeList,Nat.reduceAdd,Nat.reduceLeDiff,-Ys,isCell_int,isCell_str,hwc,heap_end,set_end,hG3,hll,hT3,load_hd,b52a,b52b,hld,opT_rowO,rowN3,sc_take,sc_load,sc_move,sc_indexAddr,sc_fieldAddr,rd_fieldAddr,sc_build',rd_build',rd_bs,sc_binOp,rd_binOp,sc_assign,rd_assign,sc_store,rd_store,rd_load,rd_move,rd_indexAddr,rd_call,aread_load]
          exact ⟨fun s h => by rw [h.1]; rfl, ⟨hG4, hG5⟩, fun s h => by rw [load3_ptr h.2]; rfl, fun _ => ⟨hG4, hG5⟩, fin⟩
  -- deeper
  have hd0 : d ≠ 0 := fun h => hleaf (.inl h)
  obtain ⟨d', rfl⟩ : ∃ d', d = d' + 1 := ⟨d - 1, by omega⟩
  have g0 : (((d' + 1 : Nat) : Int) < 1) = False := eq_false (by omega)
  have g3 : (k1 < 3) = False := eq_false (fun h => hleaf (.inr h))
  have ed : IntKind.i64.wrap (((d' + 1 : Nat) : Int) - 1) = (d' : Int) := by rw [wrap_i64 (by omega) (by omega)]; omega
  have dO := ihO d' rfl
  have dC := ihC d' rfl
  have hbd := bnd_le (show d' ≤ 2 by omega)
  have hbs : bnd (d' + 1) = 3 * bnd d' + 1 := rfl
  obtain ⟨k2, M2, hT2, hH2, hK2, hl2, p5, p6, _⟩ := take_at K hH1 4 (by simp [In64])
  have hp6 := p6 (by decide)
  have hKL2 : Kp L M2 b := hKL1.trans hK2
  by_cases c01 : k2 = 0 ∨ k2 = 1
  · obtain ⟨v1, L1, ts1, v2, L2, ts2, v3, ts3, e1, e2, r1, r2, r3, a1, a2, a3, a4, a5, a6, a7, a8, a9, a10, a11⟩ := draw2 dC dC (by omega) ts hH2
    have e5 : IntKind.i64.wrap (15 + k2) = 15 + k2 := wrap_i64 (by omega) (by omega)
    have b52 := build52o (15 + k2)
    obtain ⟨v4, ts4, r4, a12, a13⟩ := GN.push (hp := L2) a3 a5 (opN (15 + k2)) .full (by rw [List.length_append]; omega)
    simp only at r4
    have ho : 15 + k2 = 15 ∨ 15 + k2 = 16 := by omega
    have fin : ∃ (e : Ex) (L' : List AObj) (ts' : List Nat), (⟨L2, ts4⟩ : S) = ⟨L', ts'⟩ ∧ Has L' b xv xs ∧ Kp L L' b ∧ GN ts.length ts' v4 e.post ∧ Ext ts.length ts ts' ∧ WF cs e ∧ e.kind = 1 ∧ e.post.length ≤ bnd (d' + 1) :=
      ⟨.bin (15 + k2) e1 e2, L2, ts4, rfl, a1, hKL2.trans a2, by simp only [Ex.post]; rw [← List.append_assoc]; exact a12, a4.trans a13, ⟨a6, a7, ⟨by omega, by omega, by omega, by omega⟩, by rw [a8, a9]; rcases ho with h | h <;> rw [h] <;> rfl⟩, by show (takesN (15 + k2)).2 = 1; rcases ho with h | h <;> rw [h] <;> rfl, by simp only [Ex.post, List.length_append, List.length_cons, List.length_nil]; omega⟩
    rcases c01 with rfl | rfl
    all_goals
      simp -implicitDefEqProofs only [Tryd.f21,Wa,Wb,Wc,Wd,We,Wf,Wg,Wh,Wi,Wj,Wk,Wl,Wm,Wn,Zo,Zp,evalT,Nat.reduceLT,Nat.reduceEqDiff,if_true,if_false,reduceIte,Ys,ofVal,ofCell,argT,resT,setT,Y0,Int.reduceEq,Int.reduceLT,Int.reduceLE,Int.reduceNeg,mb,Nat.reduceBEq,tys,stb,Va,storeList,Nat.reduceAdd,Nat.reduceLeDiff,-Ys,hT0,isCell_int,isCell_str,hT1,heap_end,set_end,g0,g3,hT2,ed,r1,r2,r3,e5,b52,opT_rowO,rowN1,r4]
      exact fin
  have n0 : (k2 = 0) = False := eq_false (by omega)
  have n1 : (k2 = 1) = False := eq_false (by omega)
  by_cases c2 : k2 = 2
  · have n2 : (k2 = 2) = True := eq_true c2
    obtain ⟨v1, _, r1, e1, L1, ts1, rfl, a1, a2, a3, a4, a6, a8, a10⟩ := dC M2 b ts hH2
    have b52 := build52o 17
    obtain ⟨v4, ts4, r4, a12, a13⟩ := GN.push (hp := L1) a3 a4.1 (opN 17) .full (by omega)
    simp only at r4
    simp -implicitDefEqProofs only [Tryd.f21,Wa,Wb,Wc,Wd,We,Wf,Wg,Wh,Wi,Wj,Wk,Wl,Wm,Wn,Zo,Zp,evalT,Nat.reduceLT,Nat.reduceEqDiff,if_true,if_false,reduceIte,Ys,ofVal,ofCell,argT,resT,setT,Y0,Int.reduceEq,Int.reduceLT,Int.reduceLE,Int.reduceNeg,mb,Nat.reduceBEq,tys,stb,Va,storeList,Nat.reduceAdd,Nat.reduceLeDiff,-Ys,hT0,isCell_int,isCell_str,hT1,heap_end,set_end,g0,g3,n0,n1,n2,hT2,ed,r1,b52,opT_rowO,rowN1,r4]
    exact ⟨.una 17 e1, L1, ts4, rfl, a1, hKL2.trans a2, a12, a4.trans a13, ⟨a6, .inr rfl, by rw [a8]; rfl⟩, rfl, by simp only [Ex.post, List.length_append, List.length_cons, List.length_nil]; omega⟩
  have n2 : (k2 = 2) = False := eq_false c2
  obtain ⟨v1, L1, ts1, v2, L2, ts2, v3, ts3, e1, e2, r1, r2, r3, a1, a2, a3, a4, a5, a6, a7, a8, a9, a10, a11⟩ := draw2 dO dO (by omega) ts hH2
  obtain ⟨k5, L3, hT5, hH5, hK5, hl5, p7, p8, _⟩ := take_at K a1 6 (by simp [In64])
  have hp8 := p8 (by decide)
  have e5 : IntKind.i64.wrap (9 + k5) = 9 + k5 := wrap_i64 (by omega) (by omega)
  have b52 := build52o (9 + k5)
  have htk := takes_cmp (op := 9 + k5) (by omega) (by omega)
  obtain ⟨w3, ts6, s3, b10, b11⟩ := GN.push (hp := L3) a3 a5 (opN (9 + k5)) .full (by rw [List.length_append]; omega)
  simp only at s3
  simp -implicitDefEqProofs only [Tryd.f21,Wa,Wb,Wc,Wd,We,Wf,Wg,Wh,Wi,Wj,Wk,Wl,Wm,Wn,Zo,Zp,evalT,Nat.reduceLT,Nat.reduceEqDiff,if_true,if_false,reduceIte,Ys,ofVal,ofCell,argT,resT,setT,Y0,Int.reduceEq,Int.reduceLT,Int.reduceLE,Int.reduceNeg,mb,Nat.reduceBEq,tys,stb,Va,storeList,Nat.reduceAdd,Nat.reduceLeDiff,-Ys,hT0,isCell_int,isCell_str,hT1,heap_end,set_end,g0,g3,n0,n1,n2,hT2,ed,r1,r2,r3,hT5,e5,b52,opT_rowO,rowN1,s3]
  exact ⟨.bin (9 + k5) e1 e2, L3, ts6, rfl, hH5, (hKL2.trans a2).trans hK5, by simp only [Ex.post]; rw [← List.append_assoc]; exact b10, a4.trans b11, ⟨a6, a7, ⟨by omega, by omega, by omega, by omega⟩, by rw [htk, a8, a9]⟩, by show (takesN (9 + k5)).2 = 1; rw [htk], by simp only [Ex.post, List.length_append, List.length_cons, List.length_nil]; omega⟩
theorem draws (d : Nat) (hd : d ≤ 3) : Draws 42 0 xv xs cs q d ∧ Draws 21 1 xv xs cs q d := by
  induction d with
  | zero => exact ⟨operand_step K q ok h1 h2 hws 0 hd (fun d' h => by omega) (fun d' h => by omega), condition_step K q ok h1 h2 hws 0 hd (fun d' h => by omega) (fun d' h => by omega)⟩
  | succ d ih =>
    obtain ⟨i1, i2⟩ := ih (by omega)
    have j1 : ∀ d', d + 1 = d' + 1 → Draws 42 0 xv xs cs q d' := fun d' h => by
      obtain rfl : d' = d := by omega
      exact i1
    have j2 : ∀ d', d + 1 = d' + 1 → Draws 21 1 xv xs cs q d' := fun d' h => by
      obtain rfl : d' = d := by omega
      exact i2
    exact ⟨operand_step K q ok h1 h2 hws (d + 1) hd j1 j2, condition_step K q ok h1 h2 hws (d + 1) hd j1 j2⟩
theorem operand_call : Draws 20 0 xv xs cs q 3 := by
  intro L b ts hH
  obtain ⟨v, _, hc, e, L', ts', rfl, r⟩ := (draws K q ok h1 h2 hws 3 (Nat.le_refl _)).1 L b ts hH
  refine callFn_any rfl rfl at20 rfl (by simp [Tryd.f20]) (by simp [Tryd.f20]) (G_start ?_)
  have hc : callFn env (ev env) 42 [V.ptr b 0, V.row (flatC cs) cs.length q, V.int IntKind.i64 3] ⟨L, ts⟩ = some (v, ⟨L', ts'⟩) := hc
  simp -implicitDefEqProofs only [Tryd.f20,Wa,Wb,Wc,Wd,We,Wf,Wg,Wh,Wi,Wj,Wk,Wl,Wm,Wn,Zo,Zp,evalT,Nat.reduceLT,Nat.reduceEqDiff,if_true,if_false,reduceIte,Ys,ofVal,ofCell,argT,resT,setT,Y0,Int.reduceEq,Int.reduceLT,Int.reduceLE,Int.reduceNeg,mb,Nat.reduceBEq,tys,stb,Va,storeList,Nat.reduceAdd,Nat.reduceLeDiff,hc]
  exact ⟨e, L', ts', rfl, r⟩
theorem condition_call : Draws 21 1 xv xs cs q 3 := (draws K q ok h1 h2 hws 3 (Nat.le_refl _)).2
end
end Go.Proofs.YtcjapamldllleaaDoor.N
namespace Go.Proofs.YtcjapamldllleaaDoor.N
open Go.Ab
set_option maxHeartbeats 4000000
set_option maxHeartbeats 4000000
set_option maxRecDepth 100000
set_option linter.unusedSimpArgs false
set_option linter.unusedVariables false
set_option linter.unusedSectionVars false
theorem at22 : env.P.funcs[22]? = some Tryd.f22 := by kernel_rfl
section
variable {xv : V} {xs : List Int} (K : Tk xv xs) {cs : List Col} (q : RCap) (h2 : cs.length ≤ 1000) (hb : ∀ i, i < cs.length → (cs.getD i Col.none).lo ≤ (cs.getD i Col.none).hi ∧ -1000000 ≤ (cs.getD i Col.none).lo ∧ (cs.getD i Col.none).hi ≤ 1000000)
include K h2 hb
theorem values_call (L : List AObj) (b : Nat) (ts : List Nat) (hH : Has L b xv xs) :
    ∃ v σ', callFn env (ev env) 22 [.ptr b 0, .row (flatC cs) cs.length q] ⟨L, ts⟩ = some (v, σ') ∧ ∃ (ys : List Int) (L' : List AObj) (ts' : List Nat), σ' = ⟨L', ts'⟩ ∧ Has L' b xv xs ∧ Kp L L' b ∧ GI 0 ts' v ys ∧ Fits cs ys := by
  refine callFn_any rfl rfl at22 rfl (by simp [Tryd.f22]) (by simp [Tryd.f22]) (G_start ?_)
  simp -implicitDefEqProofs only [Tryd.f22,Wa,Wb,Wc,Wd,We,Wf,Wg,Wh,Wi,Wj,Wk,Wl,Wm,Wn,Zo,Zp,evalT,Nat.reduceLT,Nat.reduceEqDiff,if_true,if_false,reduceIte,Ys,ofVal,ofCell,argT,resT,setT,Y0,Int.reduceEq,Int.reduceLT,Int.reduceLE,Int.reduceNeg,mb,Nat.reduceBEq,tys,stb]
  refine loop_rule (fun m T D σ => D = [] ∧ T 0 = .ptr b 0 ∧ T 1 = .row (flatC cs) cs.length q ∧ ∃ (i : Nat) (M : List AObj) (ts' : List Nat) (ys : List Int) (v : V), σ = ⟨M, ts'⟩ ∧ T 5 = v ∧ GI 0 ts' v ys ∧ T 6 = .int .i64 i ∧ Has M b xv xs ∧ Kp L M b ∧ ys.length = i ∧ i ≤ cs.length ∧ (∀ j, j < i → (cs.getD j Col.none).lo ≤ ys.getD j 0 ∧ ys.getD j 0 ≤ (cs.getD j Col.none).hi) ∧ m = cs.length - i) ?_ (cs.length - 0) _ _ _
    ⟨rfl, rfl, rfl, 0, L, ts, [], .nilsl, rfl, rfl, .nil, rfl, hH, .rfl' _ _, rfl, Nat.zero_le _, fun j hj => by omega, rfl⟩
  rintro m T D σ ⟨rfl, t0, t1, i, M, ts', ys, v, rfl, t5, hg, t6, hM, hKM, hyl, hi, hall, rfl⟩
  refine G_start ?_
  by_cases hlt : i < cs.length
  · have c1 : (i : Int) < (cs.length : Int) := by omega
    have e1 : IntKind.i64.wrap ((i : Int) + 1) = ((i + 1 : Nat) : Int) := by rw [wrap_i64 (by omega) (by omega)]; omega
    obtain ⟨rr, hix⟩ := idx_C' cs q hlt
    obtain ⟨b1, b2, b3⟩ := hb i hlt
    generalize hc : cs.getD i Col.none = c at *
    have e2 : IntKind.i64.wrap (c.hi - c.lo) = c.hi - c.lo := wrap_i64 (by omega) (by omega)
    have e3 : IntKind.i64.wrap (c.hi - c.lo + 1) = c.hi - c.lo + 1 := wrap_i64 (by omega) (by omega)
    obtain ⟨k1, M1, hT1, hH1, hK1, hl1, p1, p2, _⟩ := take_at K hM (c.hi - c.lo + 1) (by unfold In64; omega)
    have hp2 := p2 (by omega)
    have e4 : IntKind.i64.wrap (c.lo + k1) = c.lo + k1 := wrap_i64 (by omega) (by omega)
    have hri := rowI1 (c.lo + k1)
    obtain ⟨v', ts2, hA, hg', _⟩ := GI.push (hp := M1) hg (Nat.zero_le _) (c.lo + k1) .full (by omega)
    simp -implicitDefEqProofs only [Wa,Wb,Wc,Wd,We,Wf,Wg,Wh,Wi,Wj,Wk,Wl,Wm,Wn,Zo,Zp,evalT,Nat.reduceLT,Nat.reduceEqDiff,if_true,if_false,reduceIte,Ys,ofVal,ofCell,argT,resT,setT,Y0,Int.reduceEq,Int.reduceLT,Int.reduceLE,Int.reduceNeg,mb,Nat.reduceBEq,tys,stb,Va,storeList,Nat.reduceAdd,Nat.reduceLeDiff,t0,t1,t5,t6,-Ys,c1]
    refine G_stab rfl (fun _ => True) trivial (by kernel_rfl) ?_
    simp -implicitDefEqProofs only [Wa,Wb,Wc,Wd,We,Wf,Wg,Wh,Wi,Wj,Wk,Wl,Wm,Wn,Zo,Zp,evalT,Nat.reduceLT,Nat.reduceEqDiff,if_true,if_false,reduceIte,Ys,ofVal,ofCell,argT,resT,setT,Y0,Int.reduceEq,Int.reduceLT,Int.reduceLE,Int.reduceNeg,mb,Nat.reduceBEq,tys,stb,Va,storeList,Nat.reduceAdd,Nat.reduceLeDiff,t0,t1,t5,t6,-Ys,c1,e1,hix,load_hd,e2,e3,hT1,e4,opT_rowO,hri,hA,sc_take,sc_load,sc_move,sc_indexAddr,sc_fieldAddr,rd_fieldAddr,sc_build',rd_build',rd_bs,sc_binOp,rd_binOp,sc_assign,rd_assign,rd_load,rd_move,rd_indexAddr,rd_call,aread_load]
    refine ⟨fun _ => trivial, fun _ => trivial, fun _ => trivial, fun _ => trivial, fun _ => trivial, cs.length - (i + 1), by omega, i + 1, M1, ts2, ys ++ [c.lo + k1], v', rfl, rfl, hg', rfl, hH1, hKM.trans hK1, by simp [hyl], by omega, fun j hj => ?_, rfl⟩
    by_cases hji : j < i
    · have := hall j hji
      have e : (ys ++ [c.lo + k1]).getD j 0 = ys.getD j 0 := by simp only [List.getD]; rw [List.getElem?_append_left (by omega)]
      rw [e]; exact this
    · have : j = i := by omega
      subst this
      have e : (ys ++ [c.lo + k1]).getD j 0 = c.lo + k1 := by simp only [List.getD]; rw [List.getElem?_append_right (by omega), hyl, Nat.sub_self]; rfl
      rw [hc, e]
      omega
  · have hic : i = cs.length := by omega
    subst hic
    have c1 : ¬ (cs.length : Int) < (cs.length : Int) := by omega
    simp -implicitDefEqProofs only [Wa,Wb,Wc,Wd,We,Wf,Wg,Wh,Wi,Wj,Wk,Wl,Wm,Wn,Zo,Zp,evalT,Nat.reduceLT,Nat.reduceEqDiff,if_true,if_false,reduceIte,Ys,ofVal,ofCell,argT,resT,setT,Y0,Int.reduceEq,Int.reduceLT,Int.reduceLE,Int.reduceNeg,mb,Nat.reduceBEq,tys,stb,Va,storeList,Nat.reduceAdd,Nat.reduceLeDiff,t0,t1,t5,t6,c1]
    exact ⟨ys, M, ts', rfl, hM, hKM, hg, hyl, fun j hj => hall j hj⟩
end
end Go.Proofs.YtcjapamldllleaaDoor.N
namespace Go.Proofs.YtcjapamldllleaaDoor.N
open Go.Ab
set_option maxHeartbeats 4000000
set_option maxHeartbeats 4000000
set_option maxRecDepth 100000
set_option linter.unusedSimpArgs false
set_option linter.unusedVariables false
set_option linter.unusedSectionVars false
theorem at41 : env.P.funcs[41]? = some Tryd.f41 := by kernel_rfl
theorem at19 : env.P.funcs[19]? = some Tryd.f19 := by kernel_rfl
theorem tysc : env.P.underlying 33 = some (.slice 36) ∧ sz env 36 = some 4 ∧ fldOff env 36 0 = some 0 ∧ fldOff env 36 1 = some 1 ∧ fldOff env 36 2 = some 2 ∧ fldOff env 36 3 = some 3 ∧ (∀ h p, aload env h 36 p = (loadCellsV h 4 p).map .agg) ∧ zeroV env 36 = some (.agg [.str [], .bool false, .int .i64 0, .nilsl]) := by
  have g36 : aggT env 36 = some true := by kernel_rfl
  have s36 : sz env 36 = some 4 := by kernel_rfl
  exact ⟨by kernel_rfl, s36, by kernel_rfl, by kernel_rfl, by kernel_rfl, by kernel_rfl, fun h p => by unfold aload; rw [g36, s36]; rfl, by kernel_rfl⟩
theorem eS : Elt env 33 36 4 56 := ⟨by kernel_rfl, by kernel_rfl, by kernel_rfl, by kernel_rfl, by kernel_rfl⟩
theorem rowS1 (a b c d : V) : rowO env 33 1 [(0, .agg [a, b, c, d])] = some (.row [a, b, c, d] 1 .full) := by kernel_rfl
theorem build36 (s : List UInt8) (n : Int) : buildO env 36 [(0, .str s), (2, .int .i64 n)] = some (.agg [.str s, .bool false, .int .i64 n, .nilsl]) := by kernel_rfl
theorem idx_ages {j : Nat} (h : j < 5) : ∃ r, vIndexAddr 1 (rowW ages) (.int .i64 j) = some (.rptr (.str (ages.getD j []) :: r)) := by
  match j, h with
  | 0, _ => exact ⟨_, rfl⟩
  | 1, _ => exact ⟨_, rfl⟩
  | 2, _ => exact ⟨_, rfl⟩
  | 3, _ => exact ⟨_, rfl⟩
  | 4, _ => exact ⟨_, rfl⟩
theorem cells_bool (b : Bool) : (V.bool b).cells = [.bool b] := rfl
theorem ia_build (t : TypeId) (ps : Array (Nat × Operand)) : isAlloc (.build t ps) = false := rfl
theorem ia_fcall (f : FuncId) (ag : Array Operand) (ts : Array TypeId) : isAlloc (.call ⟨.value (.func f), ag, ts⟩) = false := rfl
theorem idx_tabs {j : Nat} (h : j < 3) : ∃ r, vIndexAddr 1 (rowW tabs) (.int .i64 j) = some (.rptr (.str (tabs.getD j []) :: r)) := by
  match j, h with
  | 0, _ => exact ⟨_, rfl⟩
  | 1, _ => exact ⟨_, rfl⟩
  | 2, _ => exact ⟨_, rfl⟩
theorem KitC.is {nm : List UInt8} {c : Col} (h : KitC nm c) : IsW c.w c.ws ∧ c.ws.length ≤ 5 := by
  rcases h.2 with ⟨h1, h2, _⟩ | ⟨k, h1, h2, h3, h4, _⟩
  · exact ⟨.inl ⟨h1, h2⟩, by rw [h2]; simp⟩
  · refine ⟨by rw [h3, h4]; exact rowW_is _, by rw [h3]; simp; omega⟩
def AllC (cs : List Col) : Prop := ∀ j, j < cs.length → KitC (ages.getD j []) (cs.getD j Col.none)
theorem AllC.add {cs : List Col} (h : AllC cs) {c : Col} (hc : KitC (ages.getD cs.length []) c) : AllC (cs ++ [c]) := fun j hj => by
  rw [List.length_append, List.length_singleton] at hj
  by_cases e : j < cs.length
  · have : (cs ++ [c]).getD j Col.none = cs.getD j Col.none := by simp only [List.getD]; rw [List.getElem?_append_left e]
    rw [this]; exact h j e
  · have : j = cs.length := by omega
    subst this
    have : (cs ++ [c]).getD cs.length Col.none = c := by simp [List.getD]
    rw [this]; exact hc
def Kit (c : Col) : Prop := (∃ j, j < 5 ∧ c.name = ages.getD j []) ∧ IsW c.w c.ws ∧ ((c.ws = [] ∧ -3 ≤ c.lo ∧ c.lo ≤ c.hi ∧ c.hi ≤ 20) ∨ ∃ k, 1 ≤ k ∧ k ≤ 5 ∧ c.ws = reds.take k ∧ c.lo = 0 ∧ c.hi = (k : Int) - 1)
theorem KitC.copy {j : Nat} (hj : j < 5) {c : Col} (h : KitC (ages.getD j []) c) : Kit ⟨c.name, c.lo, c.hi, rowW c.ws, c.ws⟩ := by
  refine ⟨⟨j, hj, h.1⟩, rowW_is _, ?_⟩
  rcases h.2 with ⟨_, h2, h3⟩ | ⟨k, h1, h2, h3, _, h5⟩
  · exact .inl ⟨h2, h3⟩
  · exact .inr ⟨k, h1, h2, h3, h5⟩
def Kits (ds : List Col) : Prop := ∀ c ∈ ds, Kit c
theorem Kits.add {ds : List Col} (h : Kits ds) {c : Col} (hc : Kit c) : Kits (ds ++ [c]) := fun d hd => by
  rcases List.mem_append.1 hd with hd | hd
  · exact h d hd
  · rw [List.mem_singleton.1 hd]; exact hc
def LastS (cells : List V) (n : Nat) (ds : List Col) : Prop := ∃ a b c q, cells.drop ((n - 1) * 4) = [a, b, c, .row (flatC ds) ds.length q]
theorem row_of_GC {base : Nat} {ts : List Nat} {v : V} {ds : List Col} (g : GC base ts v ds) (h : ds ≠ []) : ∃ q, v = .row (flatC ds) ds.length q := g.isrow (by cases ds with | nil => exact absurd rfl h | cons x r => simp)
def Kp2 (L L' : List AObj) (b P : Nat) : Prop := L.length ≤ L'.length ∧ ∀ q, q < L.length → q ≠ b → q ≠ P → L'[q]? = L[q]?
section
variable {xv : V} {xs : List Int} (K : Tk xv xs)
include K
theorem inner_loop {Q : Post} {ks : List Kt} {T : Tm} {H : List AObj} {ts : List Nat} {b P : Nat} (hPb : P ≠ b) {cs : List Col} {q : RCap} (hA : AllC cs) (hl : cs.length = 5) {s : List UInt8} {pb : Bool} {nn f : Int} (hf0 : 0 ≤ f) (hf : f < 5)
    (t0 : T 0 = .ptr b 0) (t3 : T 3 = .row (flatC cs) cs.length q) (t8 : T 8 = .ptr P 0) (t9 : T 9 = .int .i64 f) (t10 : T 10 = .int .i64 0) (hH : Has H b xv xs) (hP : H[P]? = some (.cells [.str s, .bool pb, .int .i64 nn, .nilsl] 36))
    (h : ∀ (T' : Tm) (H' : List AObj) (ts' : List Nat) (ds : List Col) (qd : RCap), T' 0 = T 0 → T' 3 = T 3 → T' 5 = T 5 → T' 6 = T 6 → T' 7 = T 7 → T' 8 = T 8 → Has H' b xv xs → Kp2 H H' b P → H'[P]? = some (.cells [.str s, .bool pb, .int .i64 nn, .row (flatC ds) ds.length qd] 36) → Kits ds → 1 ≤ ds.length → ds.length ≤ 5 → Ext ts.length ts ts' → G env 41 none 78 Q ks .skip T' [] ⟨H', ts'⟩) :
    wpLoop env 41 none 78 (loopB 4 (bodyOf Tryd.f41)) T [] ⟨H, ts⟩ (Kt.post env 41 none 78 Q (.blk 4 :: ks)) := by
  simp only [bodyOf, Tryd.f41, Option.getD_some, loopB, blkC, Option.or, Nat.reduceEqDiff, if_false, if_true, reduceIte]
  refine loop_rule (fun m T2 D σ => D = [] ∧ T2 0 = T 0 ∧ T2 3 = T 3 ∧ T2 5 = T 5 ∧ T2 6 = T 6 ∧ T2 7 = T 7 ∧ T2 8 = T 8 ∧ T2 9 = T 9 ∧ ∃ (M : List AObj) (ts' : List Nat) (k : Nat) (ds : List Col) (dv : V), σ = ⟨M, ts'⟩ ∧ T2 10 = .int .i64 k ∧ Has M b xv xs ∧ Kp2 H M b P ∧ M[P]? = some (.cells [.str s, .bool pb, .int .i64 nn, dv] 36) ∧ GC ts.length ts' dv ds ∧ Ext ts.length ts ts' ∧ Kits ds ∧ k ≤ 5 ∧ ds.length ≤ k ∧ (f < k → ds ≠ []) ∧ m = 5 - k) ?_ (5 - 0) _ _ _
    ⟨rfl, rfl, rfl, rfl, rfl, rfl, rfl, rfl, H, ts, 0, [], .nilsl, rfl, t10, hH, ⟨Nat.le_refl _, fun _ _ _ _ => rfl⟩, hP, .nil, .rfl' _ _, fun c hc => by simp at hc, by omega, by simp, fun hh => by omega, rfl⟩
  rintro m T2 D σ ⟨rfl, u0, u3, u5, u6, u7, u8, u9, M, ts', k, ds, dv, rfl, u10, hM, hKM, hMP, hg, hE, hKd, hk5, hdk, hfd, rfl⟩
  have v0 := u0.trans t0
  have v3 := u3.trans t3
  have v8 := u8.trans t8
  have v9 := u9.trans t9
  refine G_start ?_
  by_cases hlt : k < 5
  · have c1 : (k : Int) < 5 := by omega
    have e1 : IntKind.i64.wrap ((k : Int) + 1) = ((k + 1 : Nat) : Int) := by rw [wrap_i64 (by omega) (by omega)]; omega
    -- a column is added
    have add : ∀ (M1 : List AObj), Has M1 b xv xs → Kp2 H M1 b P → M1[P]? = some (.cells [.str s, .bool pb, .int .i64 nn, dv] 36) → ∃ (cv : Col) (dv' : V) (ts2 : List Nat) (r : List V), vIndexAddr 4 (.row (flatC cs) cs.length q) (.int .i64 k) = some (.rptr (.str (cs.getD k Col.none).name :: .int .i64 (cs.getD k Col.none).lo :: .int .i64 (cs.getD k Col.none).hi :: (cs.getD k Col.none).w :: r)) ∧
        (∀ σ, callFn env (ev env) 25 [.agg [.str (cs.getD k Col.none).name, .int .i64 (cs.getD k Col.none).lo, .int .i64 (cs.getD k Col.none).hi, (cs.getD k Col.none).w]] σ = some (.agg [.str cv.name, .int .i64 cv.lo, .int .i64 cv.hi, cv.w], σ)) ∧
        appO env false ⟨M1, ts'⟩ 23 23 dv (.row [.str cv.name, .int .i64 cv.lo, .int .i64 cv.hi, cv.w] 1 .full) = some (dv', ⟨M1, ts2⟩) ∧ dv'.cells = [dv'] ∧ dv'.isCell = true ∧ Has (M1.set P (.cells [.str s, .bool pb, .int .i64 nn, dv'] 36)) b xv xs ∧ Kp2 H (M1.set P (.cells [.str s, .bool pb, .int .i64 nn, dv'] 36)) b P ∧
        (M1.set P (.cells [.str s, .bool pb, .int .i64 nn, dv'] 36))[P]? = some (.cells [.str s, .bool pb, .int .i64 nn, dv'] 36) ∧ GC ts.length ts2 dv' (ds ++ [cv]) ∧ Ext ts.length ts ts2 ∧ Kits (ds ++ [cv]) ∧ (ds ++ [cv]).length ≤ k + 1 ∧ ds ++ [cv] ≠ [] := by
      intro M1 h1 h2 h3
      have hkc := hA k (by omega)
      obtain ⟨r, hix⟩ := idx_C' cs q (show k < cs.length by omega)
      have hw := hkc.is
      have hcp := copy_call (cs.getD k Col.none) hw.1 (by omega)
      obtain ⟨dv', ts2, a1, a2, a3⟩ := GC.push (hp := M1) hg hE.1 ⟨(cs.getD k Col.none).name, (cs.getD k Col.none).lo, (cs.getD k Col.none).hi, rowW (cs.getD k Col.none).ws, (cs.getD k Col.none).ws⟩ rfl .full (by omega)
      obtain ⟨z1, z2⟩ := a2.cells
      refine ⟨⟨(cs.getD k Col.none).name, (cs.getD k Col.none).lo, (cs.getD k Col.none).hi, rowW (cs.getD k Col.none).ws, (cs.getD k Col.none).ws⟩, dv', ts2, r, hix, hcp, a1, z1, z2, ?_, ⟨by have := h2.1; simp; omega, fun x hx hxb hxP => by rw [List.getElem?_set_ne (Ne.symm hxP)]; exact h2.2 x hx hxb hxP⟩, List.getElem?_set_self (List.getElem?_eq_some_iff.1 h3).1, a2, hE.trans a3, hKd.add (hkc.copy (by omega)), by simp; omega, by simp⟩
      obtain ⟨a, b1, b2⟩ := h1
      exact ⟨a, b1, by rw [List.getElem?_set_ne hPb]; exact b2⟩
    have nxt : ∀ (M' : List AObj) (ts2 : List Nat) (ds' : List Col) (dv' : V), Has M' b xv xs → Kp2 H M' b P → M'[P]? = some (.cells [.str s, .bool pb, .int .i64 nn, dv'] 36) → GC ts.length ts2 dv' ds' → Ext ts.length ts ts2 → Kits ds' → ds'.length ≤ k + 1 → (f < ((k + 1 : Nat) : Int) → ds' ≠ []) →
        ∃ m', m' < 5 - k ∧ ∃ (M : List AObj) (ts' : List Nat) (k2 : Nat) (ds : List Col) (dv : V), (⟨M', ts2⟩ : S) = ⟨M, ts'⟩ ∧ V.int .i64 ((k + 1 : Nat) : Int) = .int .i64 k2 ∧ Has M b xv xs ∧ Kp2 H M b P ∧ M[P]? = some (.cells [.str s, .bool pb, .int .i64 nn, dv] 36) ∧ GC ts.length ts' dv ds ∧ Ext ts.length ts ts' ∧ Kits ds ∧ k2 ≤ 5 ∧ ds.length ≤ k2 ∧ (f < k2 → ds ≠ []) ∧ m' = 5 - k2 :=
      fun M' ts2 ds' dv' h1 h2 h3 h4 h5 h6 h7 h8 => ⟨5 - (k + 1), by omega, M', ts2, k + 1, ds', dv', rfl, rfl, h1, h2, h3, h4, h5, h6, by omega, h7, h8, rfl⟩
    have ld4 := load4_rptr
    by_cases hkf : (k : Int) = f
    · have g1 : ((k : Int) = f) = True := eq_true hkf
      obtain ⟨cv, dv', ts2, r, x1, x2, x3, x4, x5, x6, x7, x8, x9, x10, x11, x12, x13⟩ := add M hM hKM hMP
      simp -implicitDefEqProofs only [Wa,Wb,Wc,Wd,We,Wf,Wg,Wh,Wi,Wj,Wk,Wl,Wm,Wn,Zo,Zp,evalT,Nat.reduceLT,Nat.reduceEqDiff,if_true,if_false,reduceIte,Ys,ofVal,ofCell,argT,resT,setT,Y0,Int.reduceEq,Int.reduceLT,Int.reduceLE,Int.reduceNeg,mb,Nat.reduceBEq,tys,stb,Va,storeList,Nat.reduceAdd,Nat.reduceLeDiff,tysc,t0,t3,t8,t9,u5,u6,u7,v0,v3,v8,v9,u10,-Ys,c1,e1,g1,hMP,x1,ld4,x2,opT_rowO,rowC1,x3,x4,x5]
      exact ⟨by kernel_rfl, nxt _ _ _ _ x6 x7 x8 x9 x10 x11 x12 (fun _ => x13)⟩
    · have g1 : ((k : Int) = f) = False := eq_false hkf
      obtain ⟨k1, M1, hT1, hH1, hK1, hl1, p1, p2, _⟩ := take_at K hM 2 (by simp [In64])
      have hPl := (List.getElem?_eq_some_iff.1 hMP).1
      have hMP1 : M1[P]? = some (.cells [.str s, .bool pb, .int .i64 nn, dv] 36) := by rw [hK1.2 P hPl hPb]; exact hMP
      have hKM1 : Kp2 H M1 b P := ⟨Nat.le_trans hKM.1 hK1.1, fun x hx hxb hxP => by rw [hK1.2 x (by have := hKM.1; omega) hxb]; exact hKM.2 x hx hxb hxP⟩
      by_cases hk1 : k1 = 1
      · have g2 : (k1 = 1) = True := eq_true hk1
        obtain ⟨cv, dv', ts2, r, x1, x2, x3, x4, x5, x6, x7, x8, x9, x10, x11, x12, x13⟩ := add M1 hH1 hKM1 hMP1
        simp -implicitDefEqProofs only [Wa,Wb,Wc,Wd,We,Wf,Wg,Wh,Wi,Wj,Wk,Wl,Wm,Wn,Zo,Zp,evalT,Nat.reduceLT,Nat.reduceEqDiff,if_true,if_false,reduceIte,Ys,ofVal,ofCell,argT,resT,setT,Y0,Int.reduceEq,Int.reduceLT,Int.reduceLE,Int.reduceNeg,mb,Nat.reduceBEq,tys,stb,Va,storeList,Nat.reduceAdd,Nat.reduceLeDiff,tysc,t0,t3,t8,t9,u5,u6,u7,v0,v3,v8,v9,u10,-Ys,c1,e1,g1,hT1,g2,hMP1,x1,ld4,x2,opT_rowO,rowC1,x3,x4,x5]
        exact ⟨by kernel_rfl, nxt _ _ _ _ x6 x7 x8 x9 x10 x11 x12 (fun _ => x13)⟩
      · have g2 : (k1 = 1) = False := eq_false hk1
        simp -implicitDefEqProofs only [Wa,Wb,Wc,Wd,We,Wf,Wg,Wh,Wi,Wj,Wk,Wl,Wm,Wn,Zo,Zp,evalT,Nat.reduceLT,Nat.reduceEqDiff,if_true,if_false,reduceIte,Ys,ofVal,ofCell,argT,resT,setT,Y0,Int.reduceEq,Int.reduceLT,Int.reduceLE,Int.reduceNeg,mb,Nat.reduceBEq,tys,stb,Va,storeList,Nat.reduceAdd,Nat.reduceLeDiff,tysc,t0,t3,t8,t9,u5,u6,u7,v0,v3,v8,v9,u10,-Ys,c1,e1,g1,hT1,g2]
        exact nxt _ _ _ _ hH1 hKM1 hMP1 hg hE hKd (by omega) (fun hh => hfd (by omega))
  · have hk : k = 5 := by omega
    subst hk
    have c1 : ¬ ((5 : Nat) : Int) < 5 := by omega
    obtain ⟨qd, rfl⟩ := row_of_GC hg (hfd (by omega))
    have hne := hfd (by omega)
    simp -implicitDefEqProofs only [Wa,Wb,Wc,Wd,We,Wf,Wg,Wh,Wi,Wj,Wk,Wl,Wm,Wn,Zo,Zp,evalT,Nat.reduceLT,Nat.reduceEqDiff,if_true,if_false,reduceIte,Ys,ofVal,ofCell,argT,resT,setT,Y0,Int.reduceEq,Int.reduceLT,Int.reduceLE,Int.reduceNeg,mb,Nat.reduceBEq,tys,stb,Va,storeList,Nat.reduceAdd,Nat.reduceLeDiff,v0,v3,v8,v9,u10,c1]
    refine h _ M ts' ds qd ?_ ?_ ?_ ?_ ?_ ?_ hM hKM hMP hKd ?_ hdk hE
    all_goals first
      | assumption
      | (cases ds with
         | nil => exact absurd rfl hne
         | cons x r => simp)
end
section
variable {xv : V} {xs : List Int} (K : Tk xv xs)
include K
theorem region11 {Q : Post} {ks : List Kt} {T : Tm} {M : List AObj} {ts : List Nat} {b i : Nat} (hi : i < 3) (t0 : T 0 = .ptr b 0) (t7 : T 7 = .int .i64 i) (hM : Has M b xv xs)
    (h : ∀ (T' : Tm) (M1 : List AObj) (k2 : Int), T' 0 = T 0 → T' 3 = T 3 → T' 5 = T 5 → T' 6 = T 6 → T' 7 = T 7 → T' 8 = .ptr M.length 0 → Has M1 b xv xs → Kp M M1 b → M1.length = M.length → G env 41 none 78 Q ks .skip T' [] ⟨M1 ++ [.cells [.str (tabs.getD i []), .bool false, .int .i64 (1 + k2), .nilsl] 36], ts⟩) :
    G env 41 none 78 Q ks (regB 11 (bodyOf Tryd.f41)) T [] ⟨M, ts⟩ := by
  simp only [bodyOf, Tryd.f41, Option.getD_some, regB, Option.or, Nat.reduceEqDiff, if_false, if_true, reduceIte]
  have hN0 := names0_call
  obtain ⟨rt, hit⟩ := idx_tabs hi
  obtain ⟨k2, M1, hT2, hH1, hK1, hl1, p3, p4, _⟩ := take_ext K hM 4 (by simp [In64])
  have hp4 := p4 (by decide)
  have e3 : IntKind.i64.wrap (1 + k2) = 1 + k2 := wrap_i64 (by omega) (by omega)
  have b36 := build36 (tabs.getD i []) (1 + k2)
  have hE1 : ∀ o : AObj, (M1 ++ [o])[M.length]? = some o := fun o => by rw [← hl1]; exact heap_end _ _
  have hE2 : ∀ o o' : AObj, (M1 ++ [o]).set M.length o' = M1 ++ [o'] := fun o o' => by rw [← hl1]; exact set_end _ _ _
  obtain ⟨St, hSt⟩ : ∃ St : Nat → S, ∀ c, St c = ⟨(if c.testBit 5 = true then M1 else M) ++ [if c.testBit 9 = true then AObj.cells [.str (tabs.getD i []), .bool false, .int .i64 (1 + k2), .nilsl] 36 else if c.testBit 8 = true then AObj.cells [.str [], .bool false, .int .i64 0, .nilsl] 36 else .resv], ts⟩ := ⟨_, fun c => rfl⟩
  have hI : ∀ j, j ≠ 5 → j ≠ 8 → j ≠ 9 → ∀ c, St (c ||| 2 ^ j) = St c := fun j h1 h2 h3 c => by
    rw [hSt, hSt]
    simp only [tb_or, h1, h2, h3, decide_false, Bool.or_false]
  refine G_set rfl St (L := [.cells [.str [], .bool false, .int .i64 0, .nilsl] 36]) (masks := [0, 0, 3, 7, 0, 17, 49, 127, 0, 511]) (by kernel_rfl) (by kernel_rfl) (by kernel_rfl) (by kernel_rfl) (by kernel_rfl) (by rw [hSt]; simp) ?_
  have i0 := hI 0 (by decide) (by decide) (by decide)
  have i1 := hI 1 (by decide) (by decide) (by decide)
  have i2 := hI 2 (by decide) (by decide) (by decide)
  have i3 := hI 3 (by decide) (by decide) (by decide)
  have i4 := hI 4 (by decide) (by decide) (by decide)
  have i6 := hI 6 (by decide) (by decide) (by decide)
  have i7 := hI 7 (by decide) (by decide) (by decide)
  simp -implicitDefEqProofs only [Wa,Wb,Wc,Wd,We,Wf,Wg,Wh,Wi,Wj,Wk,Wl,Wm,Wn,Zo,Zp,evalT,Nat.reduceLT,Nat.reduceEqDiff,if_true,if_false,reduceIte,Ys,ofVal,ofCell,argT,resT,setT,Y0,Int.reduceEq,Int.reduceLT,Int.reduceLE,Int.reduceNeg,mb,Nat.reduceBEq,tys,stb,Va,storeList,Nat.reduceAdd,Nat.reduceLeDiff,tysc,GZ_nil,GZ_alloc,GZ_op,GZS_some,GZS_none,GZS_ite,GZS_nite,Qv,ia_fcall,ia_build,Qp,Qs,QH,QP,t0,t7,-Ys,hN0,hit,load_hd,hT2,e3,b36,i0,i1,i2,i3,i4,i6,i7,hE1,hE2]
  refine ⟨fun _ _ _ => trivial, fun _ _ _ => trivial, fun _ _ _ => trivial, fun _ _ _ => trivial, fun _ _ _ => trivial, ?_, fun _ _ _ => trivial, fun _ _ _ => trivial, ?_, ?_, ?_, ?_⟩
  · rintro c _ ⟨a1, a2, a3⟩
    have b9 : c.testBit 9 = false := a3 9 (by decide)
    rw [hSt, hSt]
    simp only [tb_or, a1, b9, decide_true, Bool.or_true, Bool.false_eq_true, if_false, if_true, Nat.reduceEqDiff, decide_false, Bool.or_false]
    exact hT2 _ _
  · rintro c _ ⟨a1, a2, a3⟩
    have b9 : c.testBit 9 = false := a3 9 (by decide)
    refine ⟨36, _, rfl, tysc.2.2.2.2.2.2.2, ?_, ?_⟩
    · rw [hSt]
      simp only [a1, b9, Bool.false_eq_true, if_false]
      split
      · rw [← hl1]; exact heap_end _ _
      · exact heap_end _ _
    · rw [hSt, hSt]
      simp only [tb_or, a1, b9, decide_true, Bool.or_true, Bool.false_eq_true, if_false, if_true, Nat.reduceEqDiff, decide_false, Bool.or_false, S.set]
      split
      · rw [← hl1, set_end]; rfl
      · rw [set_end]; rfl
  · rfl
  · rintro c _ ⟨a1, a2, a3⟩
    have b5 := a2 5 (by decide) (by decide)
    have b8 := a2 8 (by decide) (by decide)
    rw [hSt, hSt]
    simp only [tb_or, a1, b5, b8, decide_true, Bool.or_true, Bool.false_eq_true, if_false, if_true, hE1]
    simp -implicitDefEqProofs only [Wa,Wb,Wc,Wd,We,Wf,Wg,Wh,Wi,Wj,Wk,Wl,Wm,Wn,Zo,Zp,evalT,Nat.reduceLT,Nat.reduceEqDiff,if_true,if_false,reduceIte,Ys,ofVal,ofCell,argT,resT,setT,Y0,Int.reduceEq,Int.reduceLT,Int.reduceLE,Int.reduceNeg,mb,Nat.reduceBEq,tys,stb,Va,storeList,Nat.reduceAdd,Nat.reduceLeDiff,hE2]
    rfl
  · exact ⟨fun c hc => by rw [hSt]; simp only [hc 5 (by decide), hc 9 (by decide), if_true], h _ M1 k2 rfl rfl rfl rfl rfl rfl hH1 hK1 hl1⟩
end
section
variable {xv : V} {xs : List Int} (K : Tk xv xs)
include K
theorem schemas_call {L : List AObj} {b : Nat} (hH : Has L b xv xs) (ts : List Nat) :
    ∃ v σ', callFn env (ev env) 41 [.ptr b 0] ⟨L, ts⟩ = some (v, σ') ∧ ∃ (L' : List AObj) (ts' : List Nat) (n : Nat) (cells : List V) (ds : List Col), σ' = ⟨L', ts'⟩ ∧ GrowV ts.length ts' 4 v n cells ∧ 1 ≤ n ∧ n ≤ 4 ∧ LastS cells n ds ∧ Kits ds ∧ 1 ≤ ds.length ∧ ds.length ≤ 5 ∧ Kp L L' b := by
  refine callFn_any rfl rfl at41 rfl (by simp [Tryd.f41]) (by simp [Tryd.f41]) (G_start ?_)
  have hN1 := names1_call
  simp -implicitDefEqProofs only [Tryd.f41,Wa,Wb,Wc,Wd,We,Wf,Wg,Wh,Wi,Wj,Wk,Wl,Wm,Wn,Zo,Zp,evalT,Nat.reduceLT,Nat.reduceEqDiff,if_true,if_false,reduceIte,Ys,ofVal,ofCell,argT,resT,setT,Y0,Int.reduceEq,Int.reduceLT,Int.reduceLE,Int.reduceNeg,mb,Nat.reduceBEq,tys,stb]
  refine loop_rule (fun m T D σ => D = [] ∧ T 0 = .ptr b 0 ∧ ∃ (M : List AObj) (ts' : List Nat) (cs : List Col) (v : V), σ = ⟨M, ts'⟩ ∧ T 3 = v ∧ GC ts.length ts' v cs ∧ Ext ts.length ts ts' ∧ AllC cs ∧ T 4 = .int .i64 cs.length ∧ Has M b xv xs ∧ Kp L M b ∧ cs.length ≤ 5 ∧ m = 5 - cs.length) ?_ (5 - 0) _ _ _
    ⟨rfl, rfl, L, ts, [], .nilsl, rfl, rfl, .nil, .rfl' _ _, fun j hj => by simp at hj, rfl, hH, .rfl' _ _, by simp, rfl⟩
  rintro m T D σ ⟨rfl, t0, M, ts', cs, v, rfl, t3, hg, hE, hA, t4, hM, hKM, hcl, rfl⟩
  refine G_start ?_
  by_cases hlt : cs.length < 5
  · have c1 : (cs.length : Int) < 5 := by omega
    have e1 : IntKind.i64.wrap ((cs.length : Int) + 1) = ((cs.length + 1 : Nat) : Int) := by rw [wrap_i64 (by omega) (by omega)]; omega
    obtain ⟨r, hix⟩ := idx_ages hlt
    obtain ⟨cv, _, hC, c, M', rfl, rfl, hM', hK', hkc⟩ := column65_call K hM (ages.getD cs.length []) ts'
    have hcell := isCell_W hkc.is.1
    obtain ⟨v', ts2, hP, hg', hE'⟩ := GC.push (hp := M') hg hE.1 c hcell .full (by omega)
    unfold aggC at hC
    simp -implicitDefEqProofs only [Wa,Wb,Wc,Wd,We,Wf,Wg,Wh,Wi,Wj,Wk,Wl,Wm,Wn,Zo,Zp,evalT,Nat.reduceLT,Nat.reduceEqDiff,if_true,if_false,reduceIte,Ys,ofVal,ofCell,argT,resT,setT,Y0,Int.reduceEq,Int.reduceLT,Int.reduceLE,Int.reduceNeg,mb,Nat.reduceBEq,tys,stb,Va,storeList,Nat.reduceAdd,Nat.reduceLeDiff,t0,t3,t4,-Ys,c1,e1,hN1,hix,load_hd,hC,opT_rowO,rowC1,hP]
    exact ⟨5 - (cs.length + 1), by omega, M', ts2, cs ++ [c], v', rfl, rfl, hg', hE.trans hE', hA.add hkc, by simp, hM', hKM.trans hK', by simp; omega, by simp⟩
  · have h5 : cs.length = 5 := by omega
    have c1 : ¬ (cs.length : Int) < 5 := by omega
    obtain ⟨k1, M1, hT1, hH1, hK1, hl1, p1, p2, _⟩ := take_at K hM 3 (by simp [In64])
    have hp2 := p2 (by decide)
    obtain ⟨n, hn⟩ : ∃ n : Nat, 1 + k1 = (n : Int) := ⟨(1 + k1).toNat, by omega⟩
    have e1 : IntKind.i64.wrap (1 + k1) = (n : Int) := by rw [wrap_i64 (by omega) (by omega)]; exact hn
    obtain ⟨q, rfl⟩ := hg.isrow (by omega)
    have hKM1 : Kp L M1 b := hKM.trans hK1
    simp -implicitDefEqProofs only [Wa,Wb,Wc,Wd,We,Wf,Wg,Wh,Wi,Wj,Wk,Wl,Wm,Wn,Zo,Zp,evalT,Nat.reduceLT,Nat.reduceEqDiff,if_true,if_false,reduceIte,Ys,ofVal,ofCell,argT,resT,setT,Y0,Int.reduceEq,Int.reduceLT,Int.reduceLE,Int.reduceNeg,mb,Nat.reduceBEq,tys,stb,Va,storeList,Nat.reduceAdd,Nat.reduceLeDiff,t0,t3,t4,c1,hT1,e1]
    refine loop_rule (fun m T D σ => D = [] ∧ T 0 = .ptr b 0 ∧ T 3 = .row (flatC cs) cs.length q ∧ T 5 = .int .i64 n ∧ ∃ (M : List AObj) (ts' : List Nat) (i : Nat) (cells : List V) (v : V), σ = ⟨M, ts'⟩ ∧ T 6 = v ∧ GrowV ts.length ts' 4 v i cells ∧ Ext ts.length ts ts' ∧ T 7 = .int .i64 i ∧ Has M b xv xs ∧ Kp L M b ∧ i ≤ n ∧ (1 ≤ i → ∃ ds, LastS cells i ds ∧ Kits ds ∧ 1 ≤ ds.length ∧ ds.length ≤ 5) ∧ m = n - i) ?_ (n - 0) _ _ _
      ⟨rfl, t0, t3, rfl, M1, ts', 0, [], .nilsl, rfl, rfl, .nil, hE, rfl, hH1, hKM1, Nat.zero_le _, fun h => by omega, rfl⟩
    clear hK1 hKM1 hH1 hT1 hl1 M1 hM hKM M t0 t3 t4 T hE hg ts'
    rintro m T D σ ⟨rfl, t0, t3, t5, M, ts', i, cells, v, rfl, t6, hg, hE, t7, hM, hKM, hin, hlast, rfl⟩
    refine G_start ?_
    by_cases hlt : i < n
    · have c2 : (i : Int) < (n : Int) := by omega
      have e2 : IntKind.i64.wrap ((i : Int) + 1) = ((i + 1 : Nat) : Int) := by rw [wrap_i64 (by omega) (by omega)]; omega
      simp -implicitDefEqProofs only [Wa,Wb,Wc,Wd,We,Wf,Wg,Wh,Wi,Wj,Wk,Wl,Wm,Wn,Zo,Zp,evalT,Nat.reduceLT,Nat.reduceEqDiff,if_true,if_false,reduceIte,Ys,ofVal,ofCell,argT,resT,setT,Y0,Int.reduceEq,Int.reduceLT,Int.reduceLE,Int.reduceNeg,mb,Nat.reduceBEq,tys,stb,Va,storeList,Nat.reduceAdd,Nat.reduceLeDiff,t0,t3,t5,t6,t7,c2]
      refine region11 K (show i < 3 by omega) t0 t7 hM fun T' M1 k2 u0 u3 u5 u6 u7 u8 hH1 hK1 hl1 => ?_
      have v0 : T' 0 = .ptr b 0 := u0.trans t0
      have v3 : T' 3 = .row (flatC cs) cs.length q := u3.trans t3
      have v5 : T' 5 = .int .i64 n := u5.trans t5
      have v6 : T' 6 = v := u6.trans t6
      have v7 : T' 7 = .int .i64 i := u7.trans t7
      have hHn := hH1.app [.cells [.str (tabs.getD i []), .bool false, .int .i64 (1 + k2), .nilsl] 36]
      have hbM : b < M.length := hM.lt
      have hPb : M.length ≠ b := by omega
      have hKn : Kp L (M1 ++ [.cells [.str (tabs.getD i []), .bool false, .int .i64 (1 + k2), .nilsl] 36]) b := (hKM.trans hK1).trans (Kp.app _ _)
      have hPn : (M1 ++ [AObj.cells [.str (tabs.getD i []), .bool false, .int .i64 (1 + k2), .nilsl] 36])[M.length]? = some (.cells [.str (tabs.getD i []), .bool false, .int .i64 (1 + k2), .nilsl] 36) := by rw [← hl1]; exact heap_end _ _
      have hLM := hKM.1
      generalize M1 ++ [AObj.cells [.str (tabs.getD i []), .bool false, .int .i64 (1 + k2), .nilsl] 36] = H at *
      clear hH1 hK1 hl1 t0 t3 t5 t6 t7 u0 u3 u5 u6 u7 M1 T
      -- what follows the loop over the columns
      have fin : ∀ (H2 H' : List AObj) (ts2 : List Nat) (ds : List Col) (qd : RCap) (pb : Bool) (nn : Int), Has H' b xv xs → Kp L H2 b → Kp2 H2 H' b M.length → Kits ds → 1 ≤ ds.length → ds.length ≤ 5 → Ext ts'.length ts' ts2 →
          ∃ v' ts3, appO env false ⟨H', ts2⟩ 33 33 v (.row [.str (tabs.getD i []), .bool pb, .int .i64 nn, .row (flatC ds) ds.length qd] 1 .full) = some (v', ⟨H', ts3⟩) ∧
            ∃ m', m' < n - i ∧ ∃ (M : List AObj) (ts' : List Nat) (i2 : Nat) (cells : List V) (v : V), (⟨H', ts3⟩ : S) = ⟨M, ts'⟩ ∧ v' = v ∧ GrowV ts.length ts' 4 v i2 cells ∧ Ext ts.length ts ts' ∧ V.int .i64 ((i + 1 : Nat) : Int) = .int .i64 i2 ∧ Has M b xv xs ∧ Kp L M b ∧ i2 ≤ n ∧ (1 ≤ i2 → ∃ ds, LastS cells i2 ds ∧ Kits ds ∧ 1 ≤ ds.length ∧ ds.length ≤ 5) ∧ m' = n - i2 := by
        intro H2 H' ts2 ds qd pb nn f1 f2 f3 f4 f5 f6 f7
        have hlim : lim = 2 ^ 40 := rfl
        have hb2 : ts.length ≤ ts2.length := Nat.le_trans hE.1 f7.1
        obtain ⟨v', ts3, a1, a2, a3⟩ := GrowV.push (E := env) (hp := H') (q := .full) (new := [.str (tabs.getD i []), .bool pb, .int .i64 nn, .row (flatC ds) ds.length qd]) eS ⟨36, eS.slice⟩ (hg.ext f7) hb2 rfl rfl ⟨by rw [hlim]; omega, by rw [hlim]; omega⟩
        have hcl2 := hg.lens
        refine ⟨v', ts3, a1, n - (i + 1), by omega, H', ts3, i + 1, _, v', rfl, rfl, a2, (hE.trans (f7.mono hE.1)).trans a3, rfl, f1, ⟨Nat.le_trans f2.1 f3.1, fun x hx hxb => by rw [f3.2 x (by have := f2.1; omega) hxb (by omega)]; exact f2.2 x hx hxb⟩, by omega, fun _ => ⟨ds, ⟨.str (tabs.getD i []), .bool pb, .int .i64 nn, qd, ?_⟩, f4, f5, f6⟩, rfl⟩
        rw [Nat.add_sub_cancel, ← hcl2, List.drop_left]
      by_cases hi0 : i = 0
      · have c3 : ((i : Int) > 0) = False := eq_false (by omega)
        obtain ⟨k4, H4, hT4, hH4, hK4, hl4, p5, p6, _⟩ := take_at K hHn 5 (by simp [In64])
        have hp6 := p6 (by decide)
        have hP4 : H4[M.length]? = _ := (hK4.2 _ (List.getElem?_eq_some_iff.1 hPn).1 hPb).trans hPn
        simp -implicitDefEqProofs only [Wa,Wb,Wc,Wd,We,Wf,Wg,Wh,Wi,Wj,Wk,Wl,Wm,Wn,Zo,Zp,evalT,Nat.reduceLT,Nat.reduceEqDiff,if_true,if_false,reduceIte,Ys,ofVal,ofCell,argT,resT,setT,Y0,Int.reduceEq,Int.reduceLT,Int.reduceLE,Int.reduceNeg,mb,Nat.reduceBEq,tys,stb,Va,storeList,Nat.reduceAdd,Nat.reduceLeDiff,tysc,v0,v3,v5,v6,v7,u8,c3,hT4]
        refine inner_loop K hPb hA h5 p5 hp6 v0 v3 u8 rfl rfl hH4 hP4 fun T2 H' ts2 ds qd w0 w3 w5 w6 w7 w8 f1 f2 f3 f4 f5 f6 f7 => ?_
        have z0 : T2 0 = .ptr b 0 := w0.trans v0
        have z3 : T2 3 = .row (flatC cs) cs.length q := w3.trans v3
        have z5 : T2 5 = .int .i64 n := w5.trans v5
        have z6 : T2 6 = v := w6.trans v6
        have z7 : T2 7 = .int .i64 i := w7.trans v7
        have z8 : T2 8 = .ptr M.length 0 := w8.trans u8
        obtain ⟨v', ts3, a1, a2⟩ := fin H4 H' ts2 ds qd false (1 + k2) f1 (hKn.trans hK4) f2 f4 f5 f6 f7
        have ld := ld4_at f3
        simp -implicitDefEqProofs only [Wa,Wb,Wc,Wd,We,Wf,Wg,Wh,Wi,Wj,Wk,Wl,Wm,Wn,Zo,Zp,evalT,Nat.reduceLT,Nat.reduceEqDiff,if_true,if_false,reduceIte,Ys,ofVal,ofCell,argT,resT,setT,Y0,Int.reduceEq,Int.reduceLT,Int.reduceLE,Int.reduceNeg,mb,Nat.reduceBEq,tys,stb,Va,storeList,Nat.reduceAdd,Nat.reduceLeDiff,tysc,z0,z3,z5,z6,z7,z8,e2,ld,opT_rowO,rowS1,a1]
        exact a2
      · have c3 : ((i : Int) > 0) = True := eq_true (by omega)
        obtain ⟨k3, H3, hT3, hH3, hK3, hl3, p7, p8, _⟩ := take_at K hHn 3 (by simp [In64])
        have hp8 := p8 (by decide)
        have hP3 : H3[M.length]? = _ := (hK3.2 _ (List.getElem?_eq_some_iff.1 hPn).1 hPb).trans hPn
        by_cases hk3 : k3 = 1
        · have g3 : (k3 = 1) = True := eq_true hk3
          have hS1 : ∀ o, (H3.set M.length o)[M.length]? = some o := fun o => List.getElem?_set_self (List.getElem?_eq_some_iff.1 hP3).1
          have hHs : ∀ o, Has (H3.set M.length o) b xv xs := fun o => by
            obtain ⟨a, b1, b2⟩ := hH3
            exact ⟨a, b1, by rw [List.getElem?_set_ne hPb]; exact b2⟩
          obtain ⟨k4, H4, hT4, hH4, hK4, hl4, p5, p6, _⟩ := take_at K (hHs (.cells [.str (tabs.getD i []), .bool true, .int .i64 0, .nilsl] 36)) 5 (by simp [In64])
          have hp6 := p6 (by decide)
          have hP4 : H4[M.length]? = _ := (hK4.2 _ (List.getElem?_eq_some_iff.1 (hS1 _)).1 hPb).trans (hS1 _)
          simp -implicitDefEqProofs only [Wa,Wb,Wc,Wd,We,Wf,Wg,Wh,Wi,Wj,Wk,Wl,Wm,Wn,Zo,Zp,evalT,Nat.reduceLT,Nat.reduceEqDiff,if_true,if_false,reduceIte,Ys,ofVal,ofCell,argT,resT,setT,Y0,Int.reduceEq,Int.reduceLT,Int.reduceLE,Int.reduceNeg,mb,Nat.reduceBEq,tys,stb,Va,storeList,Nat.reduceAdd,Nat.reduceLeDiff,tysc,v0,v3,v5,v6,v7,u8,c3,hT3,g3,hP3,hS1,List.set_set,isCell_bool,isCell_int,cells_bool,List.singleton_append,hT4]
          refine inner_loop K hPb hA h5 p5 hp6 v0 v3 u8 rfl rfl hH4 hP4 fun T2 H' ts2 ds qd w0 w3 w5 w6 w7 w8 f1 f2 f3 f4 f5 f6 f7 => ?_
          have z0 : T2 0 = .ptr b 0 := w0.trans v0
          have z3 : T2 3 = .row (flatC cs) cs.length q := w3.trans v3
          have z5 : T2 5 = .int .i64 n := w5.trans v5
          have z6 : T2 6 = v := w6.trans v6
          have z7 : T2 7 = .int .i64 i := w7.trans v7
          have z8 : T2 8 = .ptr M.length 0 := w8.trans u8
          have hKs : Kp L (H3.set M.length (.cells [.str (tabs.getD i []), .bool true, .int .i64 0, .nilsl] 36)) b := by
            have hk := hKn.trans hK3
            exact ⟨by have := hk.1; simp; omega, fun x hx hxb => by rw [List.getElem?_set_ne (by omega)]; exact hk.2 x hx hxb⟩
          obtain ⟨v', ts3, a1, a2⟩ := fin H4 H' ts2 ds qd true 0 f1 (hKs.trans hK4) f2 f4 f5 f6 f7
          have ld := ld4_at f3
          simp -implicitDefEqProofs only [Wa,Wb,Wc,Wd,We,Wf,Wg,Wh,Wi,Wj,Wk,Wl,Wm,Wn,Zo,Zp,evalT,Nat.reduceLT,Nat.reduceEqDiff,if_true,if_false,reduceIte,Ys,ofVal,ofCell,argT,resT,setT,Y0,Int.reduceEq,Int.reduceLT,Int.reduceLE,Int.reduceNeg,mb,Nat.reduceBEq,tys,stb,Va,storeList,Nat.reduceAdd,Nat.reduceLeDiff,tysc,z0,z3,z5,z6,z7,z8,e2,ld,opT_rowO,rowS1,a1]
          exact a2
        · have g3 : (k3 = 1) = False := eq_false hk3
          obtain ⟨k4, H4, hT4, hH4, hK4, hl4, p5, p6, _⟩ := take_at K hH3 5 (by simp [In64])
          have hp6 := p6 (by decide)
          have hP4 : H4[M.length]? = _ := (hK4.2 _ (List.getElem?_eq_some_iff.1 hP3).1 hPb).trans hP3
          simp -implicitDefEqProofs only [Wa,Wb,Wc,Wd,We,Wf,Wg,Wh,Wi,Wj,Wk,Wl,Wm,Wn,Zo,Zp,evalT,Nat.reduceLT,Nat.reduceEqDiff,if_true,if_false,reduceIte,Ys,ofVal,ofCell,argT,resT,setT,Y0,Int.reduceEq,Int.reduceLT,Int.reduceLE,Int.reduceNeg,mb,Nat.reduceBEq,tys,stb,Va,storeList,Nat.reduceAdd,Nat.reduceLeDiff,tysc,v0,v3,v5,v6,v7,u8,c3,hT3,g3,hT4]
          refine inner_loop K hPb hA h5 p5 hp6 v0 v3 u8 rfl rfl hH4 hP4 fun T2 H' ts2 ds qd w0 w3 w5 w6 w7 w8 f1 f2 f3 f4 f5 f6 f7 => ?_
          have z0 : T2 0 = .ptr b 0 := w0.trans v0
          have z3 : T2 3 = .row (flatC cs) cs.length q := w3.trans v3
          have z5 : T2 5 = .int .i64 n := w5.trans v5
          have z6 : T2 6 = v := w6.trans v6
          have z7 : T2 7 = .int .i64 i := w7.trans v7
          have z8 : T2 8 = .ptr M.length 0 := w8.trans u8
          obtain ⟨v', ts3, a1, a2⟩ := fin H4 H' ts2 ds qd false (1 + k2) f1 ((hKn.trans hK3).trans hK4) f2 f4 f5 f6 f7
          have ld := ld4_at f3
          simp -implicitDefEqProofs only [Wa,Wb,Wc,Wd,We,Wf,Wg,Wh,Wi,Wj,Wk,Wl,Wm,Wn,Zo,Zp,evalT,Nat.reduceLT,Nat.reduceEqDiff,if_true,if_false,reduceIte,Ys,ofVal,ofCell,argT,resT,setT,Y0,Int.reduceEq,Int.reduceLT,Int.reduceLE,Int.reduceNeg,mb,Nat.reduceBEq,tys,stb,Va,storeList,Nat.reduceAdd,Nat.reduceLeDiff,tysc,z0,z3,z5,z6,z7,z8,e2,ld,opT_rowO,rowS1,a1]
          exact a2
    · have hie : i = n := by omega
      subst hie
      have c2 : ¬ (i : Int) < (i : Int) := by omega
      obtain ⟨ds, d1, d2, d3, d4⟩ := hlast (by omega)
      simp -implicitDefEqProofs only [Wa,Wb,Wc,Wd,We,Wf,Wg,Wh,Wi,Wj,Wk,Wl,Wm,Wn,Zo,Zp,evalT,Nat.reduceLT,Nat.reduceEqDiff,if_true,if_false,reduceIte,Ys,ofVal,ofCell,argT,resT,setT,Y0,Int.reduceEq,Int.reduceLT,Int.reduceLE,Int.reduceNeg,mb,Nat.reduceBEq,tys,stb,Va,storeList,Nat.reduceAdd,Nat.reduceLeDiff,t0,t3,t5,t6,t7,c2]
      exact ⟨M, ts', i, cells, ds, rfl, hg, by omega, by omega, d1, d2, d3, d4, hKM⟩
end
end Go.Proofs.YtcjapamldllleaaDoor.N
namespace Go.Proofs.YtcjapamldllleaaDoor.N
open Go.Ab
set_option maxHeartbeats 4000000
set_option maxHeartbeats 4000000
set_option maxRecDepth 100000
set_option linter.unusedSimpArgs false
set_option linter.unusedVariables false
set_option linter.unusedSectionVars false
theorem ages_name : ∀ i, i < 5 → IsName (ages.getD i []) := by decide
theorem reds_name : ∀ i, i < 5 → IsName (reds.getD i []) := by decide
theorem reds_inj : ∀ i, i < 5 → ∀ j, j < 5 → reds.getD i [] = reds.getD j [] → i = j := by decide
theorem reds_take {k i : Nat} (hk : k ≤ 5) (hi : i < k) : (reds.take k).getD i [] = reds.getD i [] := by
  simp only [List.getD]; rw [List.getElem?_take_of_lt hi]
theorem reds_len {k : Nat} (hk : k ≤ 5) : (reds.take k).length = k := by simp [reds]; omega
theorem Kit.col {c : Col} (h : Kit c) : OkCol c ∧ Short c := by
  obtain ⟨⟨j, hj, hn⟩, hw, hv⟩ := h
  have hname : IsName c.name := by rw [hn]; exact ages_name j hj
  have hnl : c.name.length < 2 ^ 63 := by have := hname.2.1; omega
  rcases hv with ⟨h2, h3, h4, h5⟩ | ⟨k, h1, h2, h3, h4, h5⟩
  · refine ⟨⟨hname, ?_⟩, hnl, by rw [h2]; simp, fun i hi => by rw [h2] at hi; simp at hi⟩
    unfold colE
    rw [if_pos (show c.ws.length = 0 by rw [h2]; rfl), if_neg (by omega)]
  · have hl := reds_len h2
    refine ⟨⟨hname, ?_⟩, hnl, by rw [h3, hl]; omega, fun i hi => ?_⟩
    · unfold colE
      rw [if_neg (by rw [h3, hl]; omega), if_neg (by rw [h3, hl]; omega), if_neg, if_neg, if_neg (by rw [h3, hl]; omega)]
      · rw [h3]
        rintro ⟨i, i', hlt, hlt2, he⟩
        rw [hl] at hlt2
        rw [reds_take h2 (by omega), reds_take h2 hlt2] at he
        have := reds_inj i (by omega) i' (by omega) he
        omega
      · rw [h3]
        rintro ⟨i, hi, hn⟩
        rw [hl] at hi
        rw [reds_take h2 hi] at hn
        exact hn (reds_name i (by omega))
    · rw [h3] at hi ⊢
      rw [hl] at hi
      rw [reds_take h2 hi]
      have := (reds_name i (by omega)).2.1
      omega
section
variable {cs : List Col} (h : Kits cs)
include h
theorem Kits.at {i : Nat} (hi : i < cs.length) : Kit (cs.getD i Col.none) := by
  rw [List.getD, List.getElem?_eq_getElem hi]; exact h _ (List.getElem_mem hi)
theorem Kits.ok : OkC cs := fun c hc => (h c hc).2.1
theorem Kits.short : ∀ i, i < cs.length → Short (cs.getD i Col.none) := fun i hi => (h.at hi).col.2
theorem Kits.proper : Proper cs := fun i hi => (h.at hi).col.1
theorem Kits.ws : ∀ i, i < cs.length → (cs.getD i Col.none).ws.length ≤ 1000 := fun i hi => (h.at hi).col.2.2.1
theorem Kits.tame : Tame cs := ⟨bounds_of h.proper h.short, fun nm => by
  unfold YtcjapamldllleaaDoor.colN
  rcases seekK_spec cs nm with e | ⟨j, e, hj, _⟩
  · rw [e, if_neg (by omega)]; simp [Col.none]
  · rw [e, if_pos (by omega), Int.toNat_natCast]; exact h.ws j hj⟩
theorem Kits.bounds : ∀ i, i < cs.length → (cs.getD i Col.none).lo ≤ (cs.getD i Col.none).hi ∧ -1000000 ≤ (cs.getD i Col.none).lo ∧ (cs.getD i Col.none).hi ≤ 1000000 := fun i hi => okCol_bounds (h.at hi).col.1 (h.at hi).col.2
end
end Go.Proofs.YtcjapamldllleaaDoor.N
namespace Go.Proofs.YtcjapamldllleaaDoor.N
open Go.Ab
set_option maxHeartbeats 4000000
set_option maxHeartbeats 4000000
set_option maxRecDepth 100000
set_option linter.unusedSimpArgs false
set_option linter.unusedVariables false
set_option linter.unusedSectionVars false
theorem at5 : env.P.funcs[5]? = some Tryd.f5 := by kernel_rfl
theorem Schemas_call {xv : V} {xs : List Int} (K : Tk xv xs) (L : List AObj) (ts : List Nat) :
    ∃ v L' ts' n cells ds, callFn env (ev env) 19 [xv] ⟨L, ts⟩ = some (v, ⟨L', ts'⟩) ∧ GrowV ts.length ts' 4 v n cells ∧ 1 ≤ n ∧ n ≤ 4 ∧ LastS cells n ds ∧ Kits ds ∧ 1 ≤ ds.length ∧ ds.length ≤ 5 ∧ Kp L L' L.length := by
  have hH : Has (L ++ [tk xv 0]) L.length xv xs := ⟨0, Nat.zero_le _, heap_end _ _⟩
  obtain ⟨v, _, hc, L', ts', n, cells, ds, rfl, g1, g2, g2', g3, g4, g5, g6, g7⟩ := schemas_call K hH ts
  have hc : callFn env (ev env) 41 [.ptr L.length 0] ⟨L ++ [.cells [xv, .int .i64 0] 39], ts⟩ = some (v, ⟨L', ts'⟩) := hc
  have b39 := build39 K.hx
  have cx := isCell_I K.hx
  have key : ∃ v' σ', callFn env (ev env) 19 [xv] ⟨L, ts⟩ = some (v', σ') ∧ (v' = v ∧ σ' = ⟨L', ts'⟩) := by
    refine callFn_any rfl rfl at19 rfl (by simp [Tryd.f19]) (by simp [Tryd.f19]) (G_start ?_)
    simp -implicitDefEqProofs only [Tryd.f19,Wa,Wb,Wc,Wd,We,Wf,Wg,Wh,Wi,Wj,Wk,Wl,Wm,Wn,Zo,Zp,evalT,Nat.reduceLT,Nat.reduceEqDiff,if_true,if_false,reduceIte,Ys,ofVal,ofCell,argT,resT,setT,Y0,Int.reduceEq,Int.reduceLT,Int.reduceLE,Int.reduceNeg,mb,Nat.reduceBEq,tys,stb,b39,cx,hc]
    first | exact ⟨rfl, trivial⟩ | exact ⟨rfl, rfl⟩ | trivial
  obtain ⟨_, _, e, rfl, rfl⟩ := key
  exact ⟨_, _, _, n, cells, ds, e, g1, g2, g2', g3, g4, g5, g6, (Kp.app [tk xv 0] L.length).trans g7⟩
theorem isI_get {n : Nat} {cells : List V} {ds : List Col} {base : Nat} {ts : List Nat} {v : V} (g : GrowV base ts 4 v n cells) (h1 : 1 ≤ n) (hl : LastS cells n ds) : ∃ a b c q r, vIndexAddr 4 v (.int .i64 ((n - 1 : Nat) : Int)) = some (.rptr (a :: b :: c :: .row (flatC ds) ds.length q :: r)) := by
  obtain ⟨q', rfl⟩ := g.isrow h1
  obtain ⟨a, b, c, q, hd⟩ := hl
  refine ⟨a, b, c, q, [], ?_⟩
  rw [Ys, if_pos (by omega), Int.toNat_natCast, hd]
theorem load_3 (h : List AObj) (a b c d : V) (r : List V) : vFieldAddr 3 (.rptr (a :: b :: c :: d :: r)) = some (.rptr (d :: r)) := by simp [vFieldAddr]
theorem holds_found {xv yv zv : V} {xs ys zs : List Int} (Kx : Tk xv xs) (Ky : Tk yv ys) (Kz : Tk zv zs) : Go.Ab.Found env 5 [xv, yv, zv] := by
  refine found_of_wp at5 rfl (by simp [Tryd.f5]) (by simp [Tryd.f5]) (G_start ?_)
  have hK := known_call
  obtain ⟨v, L1, ts1, n, cells, cs, hS, g1, g2, g2', g3, g4, g5, g6, _⟩ := Schemas_call Kx [] []
  have hvl := g1.len 36
  obtain ⟨a, b, c, q, r, hix⟩ := isI_get g1 g2 g3
  have en : IntKind.i64.wrap ((n : Int) - 1) = ((n - 1 : Nat) : Int) := by rw [wrap_i64 (by omega) (by omega)]; omega
  have b39y := build39 Ky.hx
  have cy := isCell_I Ky.hx
  have b39z := build39 Kz.hx
  have cz := isCell_I Kz.hx
  have hHy : Has (L1 ++ [tk yv 0]) L1.length yv ys := ⟨0, Nat.zero_le _, heap_end _ _⟩
  obtain ⟨w1, _, hO, e1, L2, ts2, rfl, hH2, hK2, gw1, x1, wf1, kd1, ln1⟩ := operand_call Ky q g4.ok g5 (by omega) g4.ws (L1 ++ [tk yv 0]) L1.length ts1 hHy
  obtain ⟨w2, _, hC, e2, L3, ts3, rfl, hH3, hK3, gw2, x2, wf2, kd2, ln2⟩ := condition_call Ky q g4.ok g5 (by omega) g4.ws L2 L1.length ts2 hH2
  have hHz : Has (L3 ++ [tk zv 0]) L3.length zv zs := ⟨0, Nat.zero_le _, heap_end _ _⟩
  obtain ⟨w3, _, hV, rs, L4, ts4, rfl, hH4, hK4, gw3, hfit⟩ := values_call Kz q (by omega) g4.bounds (L3 ++ [tk zv 0]) L3.length ts3 hHz
  have hO : callFn env (ev env) 20 [.ptr L1.length 0, .row (flatC cs) cs.length q, .int .i64 3] ⟨L1 ++ [.cells [yv, .int .i64 0] 39], ts1⟩ = some (w1, ⟨L2, ts2⟩) := hO
  have hC : callFn env (ev env) 21 [.ptr L1.length 0, .row (flatC cs) cs.length q, .int .i64 3] ⟨L2, ts2⟩ = some (w2, ⟨L3, ts3⟩) := hC
  have hV : callFn env (ev env) 22 [.ptr L3.length 0, .row (flatC cs) cs.length q] ⟨L3 ++ [.cells [zv, .int .i64 0] 39], ts3⟩ = some (w3, ⟨L4, ts4⟩) := hV
  have hb3 : bnd 3 ≤ 200 := by decide
  have F1 : Fit w1 e1.post (.row (flatC cs) cs.length q) cs := ⟨RN.grow gw1, by omega, RC.row g4.ok q, g4.ok, by omega, g4.short⟩
  have F2 : Fit w2 e2.post (.row (flatC cs) cs.length q) cs := ⟨RN.grow gw2, by omega, RC.row g4.ok q, g4.ok, by omega, g4.short⟩
  have hrl := hfit.1
  obtain ⟨q3, rfl⟩ := gw3.isrow (by omega)
  have hin3 : ∀ x ∈ rs, In64 x := fun x hx => by
    obtain ⟨j, hj, e'⟩ := List.mem_iff_getElem.1 hx
    have h1 := hfit.2 j (by omega)
    have h2 := g4.bounds j (by omega)
    have : rs.getD j 0 = x := by rw [List.getD, List.getElem?_eq_getElem hj]; exact e'
    unfold In64
    omega
  have G3 : FitI (.row (rs.map (V.int .i64)) rs.length q3) rs := ⟨RI.row rs q3, by omega, hin3⟩
  have cOf := of_tree F1 g4.proper wf1 (by omega) kd1
  have cCan := can_tree F2 g4.proper wf2 (by omega) kd2
  have cVal := value_tree F1 G3 g4.proper hfit wf1 (by omega) kd1
  have cHol := holds_tree F2 G3 g4.proper hfit wf2 (by omega) kd2
  have hrow := fits_row hfit
  have s1 := Ex.within g4.tame hrow e1 wf1
  have s2 := Ex.within g4.tame hrow e2 wf2
  have o1 := Ex.ok g4.tame e1 wf1
  have o2 := Ex.ok g4.tame e2 wf2
  have o3 := Sub.ok o2 s2
  rw [kd1] at o1; rw [kd2] at o2 o3
  obtain ⟨_, bl, bh⟩ := o1.num
  obtain ⟨p0, p1, p2⟩ := o2.bit
  have hvb : Bit (e2.val cs rs) := o3.bit.2.1
  unfold Sub dup at s1 s2
  simp only at s1 s2
  generalize e1.val cs rs = x at *
  generalize e2.val cs rs = y at *
  generalize (e1.spn cs).1 = lo at *
  generalize (e1.spn cs).2 = hi at *
  generalize (e2.spn cs).1 = pl at *
  generalize (e2.spn cs).2 = ph at *
  unfold BI at bl bh
  have c1 : (x < lo) = False := eq_false (by omega)
  have c2 : (x > hi) = False := eq_false (by omega)
  have c3 : (lo < -1000000000000000) = False := eq_false (by omega)
  have c4 : (hi > 1000000000000000) = False := eq_false (by omega)
  rcases p1 with rfl | rfl <;> rcases p2 with rfl | rfl <;> rcases hvb with rfl | rfl
  all_goals first
    | omega
    | (simp only [decide_true, decide_false, Int.reduceEq, reduceIte] at cCan cHol
       simp -implicitDefEqProofs only [Tryd.f5,Wa,Wb,Wc,Wd,We,Wf,Wg,Wh,Wi,Wj,Wk,Wl,Wm,Wn,Zo,Zp,evalT,Nat.reduceLT,Nat.reduceEqDiff,if_true,if_false,reduceIte,Ys,ofVal,ofCell,argT,resT,setT,Y0,Int.reduceEq,Int.reduceLT,Int.reduceLE,Int.reduceNeg,mb,Nat.reduceBEq,tys,stb,Va,storeList,Nat.reduceAdd,Nat.reduceLeDiff,tysc,empty_mk,-Ys,hK,hS,hvl,en,hix,load_3,load_hd,b39y,cy,hO,hC,b39z,cz,hV,cOf,cCan,cVal,cHol,c1,c2,c3,c4]
       rfl)
theorem holds_foundt {u v w : V} (h : Tyd Tryd.prog 6 24 [u]) (h2 : Tyd Tryd.prog 6 24 [v]) (h3 : Tyd Tryd.prog 6 24 [w]) : Go.Ab.Found env 5 [u, v, w] := by
  obtain ⟨xs, a1, a2, a3⟩ := tyd_IS (k := 4) h
  obtain ⟨ys, b1, b2, b3⟩ := tyd_IS (k := 4) h2
  obtain ⟨zs, c1, c2, c3⟩ := tyd_IS (k := 4) h3
  exact holds_found ⟨a1, a3, a2⟩ ⟨b1, b3, b2⟩ ⟨c1, c3, c2⟩
end Go.Proofs.YtcjapamldllleaaDoor.N
